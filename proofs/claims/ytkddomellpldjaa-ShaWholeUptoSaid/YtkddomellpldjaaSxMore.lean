/- Channels in one goroutine, and append, over a list of things that lie apart. Of this session's own; no statement about the program. -/
import Derived.Test.YtkddomellpldjaaSxOps
import Derived.Conc.LoneSelectN
namespace Go.Sx
open Go Go.Conc

section
variable {P : Program} {f : FuncId} {c : Cfg} {E w : World} {R : Ending → World → Prop} {K : Value → World → Prop} {L : List Res}

theorem cur_mk {t : List Value} {ops : Array Oper} {i : Nat} {r : List Nat} {k : List Item} {o : Oper} (ho : ops[i]? = some o) (hw : Region.wanted o (yl ops t) = true) :
    (Cfg.mk t (.inRegion ops (i :: r) :: k)).cur = some o := by simp [Cfg.cur, ho, hw]

/-- A select of one case with a default: what one step of the machine comes to. -/
theorem To.sel {ch : Value} {snd : Option Value} {el : TypeId} {z v : Value} {w' : World} (hv : c.view = some (.sel [(ch, snd, el)] false)) (hz : (P.info? el).bind (·.zero) = some z)
    (hstep : ∀ (fr : Frame) (cs : List Frame) (es : Array Event), stepG P true (G fr cs) w = .comm (G fr cs) #[{ chan := ch, send := snd, zero := z }] false .select w es → Go.step P (Conc.solo (G fr cs) w) = .next (Conc.solo (G (fr.finish v) cs) w'))
    (h : To P f (c.fin v) w' R) : To P f c w R := by
  obtain ⟨o, ho, hvo⟩ := view_elim hv
  obtain ⟨ops, i, r, k, hk, hoi, hw, hfin⟩ := cur_elim ho
  refine To.step (fun cs => ?_) h
  have hrun : (execOp (Act.eval ⟨c.t.toArray, []⟩) o).run P w = .ok (.comm #[{ chan := ch, send := snd, zero := z }] false .select) w := by
    rw [eval_ev]
    obtain ⟨dst, op, ty, pos, after, guard⟩ := o
    unfold viewOf at hvo
    dsimp only at hvo
    split at hvo
    all_goals first | (cases hvo; done) | skip
    rename_i css bl
    have hvo2 := Option.some.inj hvo
    injection hvo2 with hop hbl
    subst hbl
    obtain ⟨s, hs⟩ : ∃ s : SelectCase, css = #[s] := by
      have h1 : css.toList.length = 1 := by
        have := congrArg List.length hop
        simpa using this
      obtain ⟨s, hs⟩ := List.length_eq_one_iff.1 h1
      exact ⟨s, by apply Array.ext'; simp [hs]⟩
    subst hs
    simp at hop
    obtain ⟨e1, e2, e3⟩ := hop
    obtain ⟨ti, hti, htz⟩ := Option.bind_eq_some_iff.1 hz
    simp [execOp, e1, e2, e3, zeroValue, typeInfo, hti, htz]
  have hcomm := stepG_comm (P := P) (main := true) (b := bs f) (a := ⟨c.t.toArray, []⟩) (k := k) (cs := cs) (w := w) (rest := r) hoi (by rw [← hw]; exact congrArg _ (yl_eq ops c.t)) (by simp [bs]) hrun
  have := hstep _ _ _ hcomm
  rw [frm, hk, ← frm_fin ho, frm, hk]
  exact this

theorem setChan_upd {ch cap : Nat} {buf : Array Value} {cl : Bool} {s r : Nat} {tm : Bool} {b : Nat} (hb : b ≠ ch) : (w.setChan ch cap buf cl s r tm).heap[b]? = w.heap[b]? := by
  simp only [World.setChan]; rw [Array.getElem?_setIfInBounds_ne (by omega)]

/-- A send that finds room. -/
theorem To.send_room (i : Nat) {ch cap : Nat} {xs : List Value} {v z : Value} {el : TypeId} (hs : Sat E w L) (hi : L[i]? = some (chn ch cap xs)) (hv : c.view = some (.sel [(.chan (some ch), some v, el)] false)) (hz : (P.info? el).bind (·.zero) = some z)
    (hr : xs.length < cap) (h : ∀ w', Sat E w' (L.set i (chn ch cap (xs ++ [v]))) → To P f (c.fin (.tuple #[.int .i64 0, .bool false])) w' R) : To P f c w R := by
  obtain ⟨s, r, hc⟩ : ∃ s r, w.heap[ch]? = some (.chan cap xs.toArray false s r false) := hs.ok i hi
  refine To.sel hv hz (w' := w.setChan ch cap (xs.toArray.push v) false (s + 1) r false) ?_ (h _ ?_)
  · intro fr cs es hcomm
    exact step_lone_select_send_room hcomm hc (by simpa using hr)
  · refine Sat.upd (b := ch) hs i hi (fun _ => Iff.rfl) (fun _ => Iff.rfl) rfl rfl rfl (fun b hb => setChan_upd hb) ⟨s + 1, r, ?_⟩
    rw [heap_setChan _ _ _ _ _ _ _ _ (getElem_lt hc)]
    simp

theorem To.send_full (i : Nat) {ch cap : Nat} {xs : List Value} {v z : Value} {el : TypeId} (hs : Sat E w L) (hi : L[i]? = some (chn ch cap xs)) (hv : c.view = some (.sel [(.chan (some ch), some v, el)] false)) (hz : (P.info? el).bind (·.zero) = some z)
    (hr : cap ≤ xs.length) (h : To P f (c.fin (.tuple #[.int .i64 (-1), .bool false])) w R) : To P f c w R := by
  obtain ⟨s, r, hc⟩ : ∃ s r, w.heap[ch]? = some (.chan cap xs.toArray false s r false) := hs.ok i hi
  exact To.sel hv hz (fun fr cs es hcomm => step_lone_select_send_full hcomm hc (by simpa using hr)) h

theorem To.recv_some (i : Nat) {ch cap : Nat} {xs : List Value} {v z : Value} {el : TypeId} (hs : Sat E w L) (hi : L[i]? = some (chn ch cap (v :: xs))) (hv : c.view = some (.sel [(.chan (some ch), none, el)] false)) (hz : (P.info? el).bind (·.zero) = some z)
    (h : ∀ w', Sat E w' (L.set i (chn ch cap xs)) → To P f (c.fin (.tuple #[.int .i64 0, .bool true, v])) w' R) : To P f c w R := by
  obtain ⟨s, r, hc⟩ : ∃ s r, w.heap[ch]? = some (.chan cap (v :: xs).toArray false s r false) := hs.ok i hi
  have ex : (v :: xs).toArray.extract 1 (v :: xs).toArray.size = xs.toArray := by simp
  have eg : (v :: xs).toArray.getD 0 undef = v := by simp
  refine To.sel hv hz (w' := w.setChan ch cap xs.toArray false s (r + 1) false) ?_ (h _ ?_)
  · intro fr cs es hcomm
    have := step_lone_select_recv_buf hcomm hc (by simp)
    rw [ex, eg] at this
    exact this
  · refine Sat.upd (b := ch) hs i hi (fun _ => Iff.rfl) (fun _ => Iff.rfl) rfl rfl rfl (fun b hb => setChan_upd hb) ⟨s, r + 1, ?_⟩
    rw [heap_setChan _ _ _ _ _ _ _ _ (getElem_lt hc)]

theorem To.recv_none (i : Nat) {ch cap : Nat} {z : Value} {el : TypeId} (hs : Sat E w L) (hi : L[i]? = some (chn ch cap [])) (hv : c.view = some (.sel [(.chan (some ch), none, el)] false)) (hz : (P.info? el).bind (·.zero) = some z)
    (h : To P f (c.fin (.tuple #[.int .i64 (-1), .bool false, z])) w R) : To P f c w R := by
  obtain ⟨s, r, hc⟩ : ∃ s r, w.heap[ch]? = some (.chan cap [].toArray false s r false) := hs.ok i hi
  exact To.sel hv hz (fun fr cs es hcomm => step_lone_select_default hcomm hc) h

def isChanT (P : Program) (t : TypeId) : Bool :=
  match P.underlying t with
  | some (.chan _ _) => true
  | _ => false

theorem isChanT_elim {t : TypeId} (h : isChanT P t = true) : ∃ d e, P.underlying t = some (.chan d e) := by
  unfold isChanT at h
  split at h
  · exact ⟨_, _, by assumption⟩
  · cases h

theorem One.chlen (i : Nat) {ch cap t ty : Nat} {xs : List Value} (hs : Sat E w L) (hi : L[i]? = some (chn ch cap xs)) (hv : c.view = some (.bi .len [t] ty [.chan (some ch)])) (ht : isChanT P t = true)
    (h : K (.int .i64 xs.length) w) : One P c w K := by
  obtain ⟨s, r, hc⟩ : ∃ s r, w.heap[ch]? = some (.chan cap xs.toArray false s r false) := hs.ok i hi
  refine One.bi' hv ?_ h
  intro consts
  obtain ⟨d, e, hd⟩ := isChanT_elim ht
  have := run_len_chan (P := P) (w := w) t ty hd hc
  simp [builtin, this, goInt]

theorem One.chcap (i : Nat) {ch cap t ty : Nat} {xs : List Value} (hs : Sat E w L) (hi : L[i]? = some (chn ch cap xs)) (hv : c.view = some (.bi .cap [t] ty [.chan (some ch)])) (ht : isChanT P t = true)
    (h : K (.int .i64 cap) w) : One P c w K := by
  obtain ⟨s, r, hc⟩ : ∃ s r, w.heap[ch]? = some (.chan cap xs.toArray false s r false) := hs.ok i hi
  refine One.bi' hv ?_ h
  intro consts
  obtain ⟨d, e, hd⟩ := isChanT_elim ht
  have := run_cap_chan (P := P) (w := w) t ty hd hc
  simp [builtin, this, goInt]

def chanBytes (P : Program) (t : TypeId) : Option Nat :=
  match P.underlying t with
  | some (.chan _ e) => (P.info? e).map (·.bytes)
  | _ => none

theorem One.mkc {t n by_ : Nat} {kd : IntKind} {m : Int} (hs : Sat E w L) (hv : c.view = some (.mkc t (.int kd m))) (hm : m = n) (hb : chanBytes P t = some by_) (hn : n ≤ 16) (hbb : by_ ≤ 1000000)
    (h : ∀ b w', Sat E w' (chn b n [] :: L) → K (.chan (some b)) w') : One P c w K := by
  unfold chanBytes at hb
  split at hb
  · rename_i d e hd
    obtain ⟨i, hi, hib⟩ := Option.map_eq_some_iff.1 hb
    subst hib hm
    have hle : i.bytes * n ≤ 1000000 * 16 := Nat.mul_le_mul hbb hn
    have h5 : ((i.bytes * n : Nat) : Int) ≤ 281474976710544 := by omega
    rw [Int.natCast_mul] at h5
    refine One.mkc' hv (run_makeChan hd hi kd n (by omega) h5) (h _ _ ?_)
    have h1 := hs.alloc (.chan n #[] false 0 0 false)
    refine Sat.upd (r := blk w.heap.size (.chan n #[] false 0 0 false)) (r' := chn w.heap.size n []) (b := w.heap.size) h1 0 rfl (fun _ => Iff.rfl) (fun _ => Iff.rfl) rfl rfl rfl (fun _ _ => rfl) ⟨0, 0, ?_⟩
    exact heap_alloc_new w _
  · cases hb

theorem oneCells_map {α : Type} (g : α → Value) (h : ∀ x, (g x).oneCell' = true) (l : List α) : oneCells (l.map g) = true := by
  unfold oneCells
  rw [List.all_map]
  exact List.all_eq_true.2 fun x _ => h x
theorem oneCells_int (k : IntKind) (l : List Int) : oneCells (l.map (Value.int k)) = true := oneCells_map _ (fun _ => rfl) l
theorem oneCells_str (l : List ByteArray) : oneCells (l.map Value.string) = true := oneCells_map _ (fun _ => rfl) l
theorem oneCells_bool (l : List Bool) : oneCells (l.map Value.bool) = true := oneCells_map _ (fun _ => rfl) l

/-! ### append -/

structure RowT (P : Program) (t e sz by_ : Nat) : Prop where
  ht : P.underlying t = some (.slice e)
  ex : ∃ i z, P.info? e = some i ∧ i.zero = some z ∧ i.size = sz ∧ i.bytes = by_ ∧ z.cells.size = sz
  pos : 0 < sz

def rowT? (P : Program) (t : TypeId) : Option (Nat × Nat × Nat) :=
  match P.underlying t with
  | some (.slice e) => match P.info? e with
    | some i => match i.zero with
      | some z => if z.cells.size = i.size then if 0 < i.size then some (e, i.size, i.bytes) else none else none
      | none => none
    | none => none
  | _ => none

theorem rowT_elim {t e sz by_ : Nat} (h : rowT? P t = some (e, sz, by_)) : RowT P t e sz by_ := by
  unfold rowT? at h
  split at h
  · rename_i e' he
    split at h
    · rename_i i hi
      split at h
      · rename_i z hz
        split at h
        · rename_i hc
          split at h
          · rename_i hp
            cases h
            exact ⟨he, ⟨i, z, hi, hz, rfl, rfl, hc⟩, hp⟩
          · cases h
        · cases h
      · cases h
    · cases h
  · cases h

theorem Sat.front (hs : Sat E w L) (i : Nat) {r : Res} (hi : L[i]? = some r) : Sat E w (r :: L.eraseIdx i) := by
  obtain ⟨hlt, he⟩ := List.getElem?_eq_some_iff.1 hi
  have e2 : L = L.take i ++ r :: L.drop (i + 1) := by
    have h2 := List.set_eq_take_append_cons_drop (l := L) (i := i) (a := r)
    rw [if_pos hlt] at h2
    rw [← h2, ← he, List.set_getElem_self]
  have e3 : L.eraseIdx i = L.take i ++ L.drop (i + 1) := List.eraseIdx_eq_take_drop_succ ..
  rw [e3]
  have p1 : (L.take i ++ r :: L.drop (i + 1)).Perm (r :: (L.take i ++ L.drop (i + 1))) := List.perm_middle
  rw [e2] at hs
  exact hs.perm p1

theorem cell_row (hs : Sat E w L) (i : Nat) {b e : Nat} {vs : List Value} (hi : L[i]? = some (cel b e vs)) {j : Nat} {u : Value} (hj : vs[j]? = some u) : w.cell? ⟨b, 0 + j, none⟩ = some u := by
  rw [cell_blk (hs.ok i hi)]
  simpa using hj

/-- Append what lies in a known block, from its head, onto a slice of the call's own. -/
theorem One.app (i : Nat) {t ty e sz by_ : Nat} {v : Value} {n m cp : Nat} {xs news : List Value} {b : Nat} {off : Nat} (hs : Sat E w L) (hi : L[i]? = some (own v n e sz xs))
    (hv : c.view = some (.bi .append [t, t] ty [v, .slice (some ⟨b, off, none⟩) m cp])) (hT : rowT? P t = some (e, sz, by_))
    (hl : news.length = m * sz) (hcell : ∀ j u, news[j]? = some u → w.cell? ⟨b, off + j, none⟩ = some u) (h1 : oneCells news = true)
    (h63 : n + m ≤ 9223372036854775807) (hby : (n + m) * by_ ≤ 140737488355328)
    (h : ∀ v' w', Sat E w' (L.set i (own v' (n + m) e sz (xs ++ news))) → K v' w') : One P c w K := by
  have hT' := rowT_elim hT
  obtain ⟨ti, z, hti, hz, hsz, hb, hzs⟩ := hT'.ex
  have hown : w.ownsRow 0 e sz v n xs := hs.ok i hi
  obtain ⟨v', w', hr, hown', hg, _⟩ := run_append_own (P := P) w 0 t ty e ti z sz by_ hT'.ht hti hz hsz hb hzs hT'.pos v n xs hown ⟨b, off, none⟩ m cp news hl (by intro j u hj; rw [add_eq]; exact hcell j u hj) (oneCell_all h1) (by unfold maxLen; omega) hby (Nat.zero_le _)
  have same : ∀ k, k < w.heap.size → v'.ownBlock = some k → v.ownBlock = some k := by
    intro k hk hv'
    rcases hown.2 with ⟨rfl, rfl⟩ | ⟨g, cap, cur, rfl, hbg, hg', hnc, hcm, hcs, htake⟩
    · have hx : xs = [] := List.eq_nil_of_length_eq_zero (by simpa using hown.1)
      subst hx
      obtain ⟨v2, w2, hr2, hown2, _, _⟩ := run_append_own (P := P) w w.heap.size t ty e ti z sz by_ hT'.ht hti hz hsz hb hzs hT'.pos _ 0 [] (World.ownsRow_nil w w.heap.size e sz) ⟨b, off, none⟩ m cp news hl (by intro j u hj; rw [add_eq]; exact hcell j u hj) (oneCell_all h1) (by unfold maxLen; omega) hby (Nat.le_refl _)
      rw [hr] at hr2
      cases hr2
      have := (World.ownsRow.lt hown2 k hv').1
      omega
    · have hnews : ∀ j u, news[j]? = some u → w.cell? ((⟨b, off, none⟩ : Addr).add j) = some u := by intro j u hj; rw [add_eq]; exact hcell j u hj
      subst hsz hb
      by_cases hroom : n + m ≤ cap
      · have hfit : n * ti.size + news.length ≤ cur.size := by rw [hl, hcs, ← Nat.add_mul]; exact Nat.mul_le_mul_right _ hroom
        have hr2 := run_append_room (P := P) w t ty e ti hT'.ht hti g n cap cur hg' ⟨b, off, none⟩ m cp news hl hnews (oneCell_all h1) hroom hfit
        rw [hr] at hr2
        cases hr2
        exact hv'
      · have hr2 := run_append_grow (P := P) w t ty e ti z hT'.ht hti hz ⟨g, 0, none⟩ n cap xs hown.1 (World.ownsRow.cells (g := g) hown rfl) ⟨b, off, none⟩ m cp news hl hnews (by omega) (by omega) (growslice_fits (by omega) hby)
        rw [hr] at hr2
        cases hr2
        simp [Value.ownBlock] at hv'
        omega
  refine One.bi' hv (fun consts => by simp [builtin, hr]) (h v' w' ?_)
  obtain ⟨hlt, he⟩ := List.getElem?_eq_some_iff.1 hi
  have e1 : L.set i (own v' (n + m) e sz (xs ++ news)) = L.take i ++ own v' (n + m) e sz (xs ++ news) :: L.drop (i + 1) := by rw [List.set_eq_take_append_cons_drop, if_pos hlt]
  have e3 : L.eraseIdx i = L.take i ++ L.drop (i + 1) := List.eraseIdx_eq_take_drop_succ ..
  have p2 : (own v' (n + m) e sz (xs ++ news) :: (L.take i ++ L.drop (i + 1))).Perm (L.take i ++ own v' (n + m) e sz (xs ++ news) :: L.drop (i + 1)) := List.perm_middle.symm
  have h2 := hs.front i hi
  rw [e1]
  refine Sat.perm ?_ p2
  rw [← e3]
  refine Sat.update (A := [own v n e sz xs]) (A' := [own v' (n + m) e sz (xs ++ news)]) h2 hg.os hg.tape hg.output ?_ ?_ (by simp [Apart]) ?_
  · intro k hk hn
    refine hg.block k hk (fun e => ?_)
    exact hn _ (List.mem_singleton.2 rfl) e.symm
  · intro r hr; rw [List.mem_singleton.1 hr]; exact hown'
  · intro r hr k hk
    rw [List.mem_singleton.1 hr] at hk
    by_cases hlt : k < w.heap.size
    · right
      refine ⟨_, List.mem_singleton.2 rfl, ?_⟩
      exact (same k hlt hk)
    · exact .inl (by omega)

theorem ownsRow_slice {base e size n : Nat} {v : Value} {xs : List Value} (h : w.ownsRow base e size v n xs) : ∃ a cap, v = .slice a n cap ∧ ((a = none ∧ cap = 0 ∧ n = 0) ∨ ∃ g, a = some ⟨g, 0, none⟩) := by
  rcases h.2 with ⟨rfl, rfl⟩ | ⟨g, cap, cur, rfl, _⟩
  · exact ⟨none, 0, rfl, .inl ⟨rfl, rfl, rfl⟩⟩
  · exact ⟨_, cap, rfl, .inr ⟨g, rfl⟩⟩

/-- Append onto a slice of one-cell elements. -/
theorem One.appRow (i : Nat) {t ty e by_ : Nat} {a : Option Addr} {cap m cp n : Nat} {xs news : List Value} {b : Nat} {off : Nat} (hs : Sat E w L) (hi : L[i]? = some (row a cap e xs))
    (hv : c.view = some (.bi .append [t, t] ty [.slice a n cap, .slice (some ⟨b, off, none⟩) m cp])) (hn : n = xs.length) (hT : rowT? P t = some (e, 1, by_))
    (hl : news.length = m) (hcell : ∀ j u, news[j]? = some u → w.cell? ⟨b, off + j, none⟩ = some u) (h1 : oneCells news = true)
    (h63 : xs.length + m ≤ 9223372036854775807) (hby : (xs.length + m) * by_ ≤ 140737488355328)
    (h : ∀ a' cap' w', Sat E w' (L.set i (row a' cap' e (xs ++ news))) → K (.slice a' (xs ++ news).length cap') w') : One P c w K := by
  subst hn
  refine One.app i hs hi hv hT (by omega) hcell h1 h63 hby fun v' w' hs' => ?_
  have e1 : (xs ++ news).length = xs.length + m := by simp [hl]
  have hlt : i < L.length := (List.getElem?_eq_some_iff.1 hi).1
  have hok : w'.ownsRow 0 e 1 v' (xs.length + m) (xs ++ news) := hs'.ok i (List.getElem?_set_self hlt)
  obtain ⟨a', cap', rfl, _⟩ := ownsRow_slice hok
  have := h a' cap' w' (by unfold row; rw [e1]; exact hs')
  rw [e1] at this
  exact this

theorem Sat.rowAddr (hs : Sat E w L) (i : Nat) {a : Option Addr} {cap e : Nat} {xs : List Value} (hi : L[i]? = some (row a cap e xs)) (hx : 0 < xs.length) : ∃ g, a = some ⟨g, 0, none⟩ := by
  have hok : w.ownsRow 0 e 1 (.slice a xs.length cap) xs.length xs := hs.ok i hi
  obtain ⟨a', cap', he, h⟩ := ownsRow_slice hok
  cases he
  rcases h with ⟨_, _, h⟩ | h
  · omega
  · exact h

theorem Sat.segAddr (hs : Sat E w L) (i : Nat) {a : Option Addr} {cap e : Nat} {xs : List Value} (hi : L[i]? = some (seg a cap e xs)) (hx : 0 < xs.length) : ∃ g o, a = some ⟨g, o, none⟩ := by
  rcases hs.ok i hi with ⟨_, _, h⟩ | ⟨g, o, _, h, _⟩
  · subst h; simp at hx
  · exact ⟨g, o, h⟩

theorem Sat.segCap (hs : Sat E w L) (i : Nat) {a : Option Addr} {cap e : Nat} {xs : List Value} (hi : L[i]? = some (seg a cap e xs)) : xs.length ≤ cap := by
  rcases hs.ok i hi with ⟨_, _, rfl⟩ | ⟨g, o, _, _, h, _⟩
  · simp
  · exact h

/-- Any thing in its place, told otherwise: it stands on the same blocks. -/
theorem Sat.weak (hs : Sat E w L) (i : Nat) {r r' : Res} (hi : L[i]? = some r) (hok : r.ok w → r'.ok w) (hf : ∀ b, r'.fp b → r.fp b) : Sat E w (L.set i r') := by
  obtain ⟨hlt, he⟩ := List.getElem?_eq_some_iff.1 hi
  have e1 : L.set i r' = L.take i ++ r' :: L.drop (i + 1) := by rw [List.set_eq_take_append_cons_drop, if_pos hlt]
  have e2 : L = L.take i ++ r :: L.drop (i + 1) := by
    have h2 := List.set_eq_take_append_cons_drop (l := L) (i := i) (a := r)
    rw [if_pos hlt] at h2
    rw [← h2, ← he, List.set_getElem_self]
  have p1 : (L.take i ++ r :: L.drop (i + 1)).Perm (r :: (L.take i ++ L.drop (i + 1))) := List.perm_middle
  have p2 : (r' :: (L.take i ++ L.drop (i + 1))).Perm (L.take i ++ r' :: L.drop (i + 1)) := List.perm_middle.symm
  rw [e2] at hs
  rw [e1]
  have h3 := hs.perm p1
  refine Sat.perm (L := r' :: (L.take i ++ L.drop (i + 1))) ?_ p2
  obtain ⟨ha, hb⟩ := List.pairwise_cons.1 h3.apart
  refine ⟨h3.os, h3.tape, h3.output, List.Pairwise.cons (fun s hs b hb => ha s hs b (hf b hb)) hb, fun s hs => ?_⟩
  rcases List.mem_cons.1 hs with rfl | hs
  · exact hok (h3.all r (List.mem_cons_self ..))
  · exact h3.all s (List.mem_cons_of_mem _ hs)

theorem Sat.rowSeg (hs : Sat E w L) (i : Nat) {a : Option Addr} {cap e : Nat} {xs : List Value} (hi : L[i]? = some (row a cap e xs)) : Sat E w (L.set i (seg a cap e xs)) := by
  refine hs.weak i hi ?_ (fun b h => h)
  intro hok
  have hok' : w.ownsRow 0 e 1 (.slice a xs.length cap) xs.length xs := hok
  rcases hok'.2 with ⟨he, h0⟩ | ⟨g, cap', cur, he, _, hg, hc, _, hsz, ht⟩
  · injection he with e1 e2 e3
    exact .inl ⟨e1, e3, List.eq_nil_of_length_eq_zero h0⟩
  · cases he
    refine .inr ⟨g, 0, cur, rfl, hc, hg, fun j u hj => ?_⟩
    rw [← ht, List.getElem?_take] at hj
    split at hj
    · simpa using hj
    · cases hj

/-- An element of a slice that is read. -/
theorem One.loadSeg (i k : Nat) {t b o off cap e : Nat} {xs : List Value} {u : Value} (hs : Sat E w L) (hi : L[i]? = some (seg (some ⟨b, o, none⟩) cap e xs)) (hv : c.view = some (.load t (.pointer (some ⟨b, off, none⟩)))) (ho : off = o + k) (hk : xs[k]? = some u)
    (ha : ((P.underlying t).isSome && !isAggB P t) = true) (h : K u w) : One P c w K := by
  refine One.loadc ?_ hv ha h
  rcases hs.ok i hi with ⟨h0, _, _⟩ | ⟨g, o', cur, he, _, hg, r⟩
  · cases h0
  · cases he
    rw [cell_blk hg, ho]
    exact r k u hk

theorem One.loadRow (i k : Nat) {t b off cap e : Nat} {xs : List Value} {u : Value} (hs : Sat E w L) (hi : L[i]? = some (row (some ⟨b, 0, none⟩) cap e xs)) (hv : c.view = some (.load t (.pointer (some ⟨b, off, none⟩)))) (ho : off = 0 + k) (hk : xs[k]? = some u)
    (ha : ((P.underlying t).isSome && !isAggB P t) = true) (h : K u w) : One P c w K := by
  have hlt : i < L.length := (List.getElem?_eq_some_iff.1 hi).1
  exact One.loadSeg i k (hs.rowSeg i hi) (List.getElem?_set_self hlt) hv ho hk ha h

/-- A piece of a slice that is read. -/
theorem add_zero_addr (a : Addr) : a.add 0 = a := by simp [Addr.add]

/-- The first so many of a slice: it begins where it began. -/
theorem One.slHead {t e sz len cap : Nat} {a : Option Addr} {hi' : Option Value} {c : Cfg} {w : World} {K : Value → World → Prop} {P : Program} (k : Nat) (hv : c.view = some (.sl t (.slice a len cap) none hi' none)) (he : elemOf? P t = some (e, sz))
    (hh : ∀ v, hi' = some v → ∃ kd i, v = .int kd i ∧ i = (k : Int)) (hh0 : hi' = none → k = len) (h2 : k ≤ cap) (h : K (.slice a k cap) w) : One P c w K := by
  refine One.slL 0 k hv he (fun v h => by cases h) (fun _ => rfl) hh hh0 (Nat.zero_le _) h2 ?_
  have e : (if cap = 0 then a else a.map (·.add (0 * sz))) = a := by
    split
    · rfl
    · rw [Nat.zero_mul]; cases a <;> simp [add_zero_addr]
  rw [e]
  exact h

theorem One.slSeg (i l k : Nat) (ys : List Value) {t e cap n : Nat} {a : Option Addr} {xs : List Value} {lo hi' : Option Value} (hs : Sat E w L) (hi : L[i]? = some (seg a cap e xs)) (hv : c.view = some (.sl t (.slice a n cap) lo hi' none)) (hn : n = xs.length) (he : elemOf? P t = some (e, 1))
    (hl : ∀ v, lo = some v → ∃ kd z, v = .int kd z ∧ z = (l : Int)) (hl0 : lo = none → l = 0) (hh : ∀ v, hi' = some v → ∃ kd z, v = .int kd z ∧ z = (k : Int)) (hh0 : hi' = none → k = n)
    (h1 : l ≤ k) (h2 : k ≤ xs.length) (hy : (xs.drop l).take (k - l) = ys) (h : ∀ a', Sat E w (L.set i (seg a' (cap - l) e ys)) → K (.slice a' ys.length (cap - l)) w) : One P c w K := by
  subst hn
  have hcap := hs.segCap i hi
  refine One.slL l k hv he hl hl0 hh hh0 h1 (by omega) ?_
  have hlen : ys.length = k - l := by rw [← hy]; simp; omega
  have := h (if cap = l then a else a.map (·.add (l * 1))) (hs.weak i hi (fun hok => ?_) ?_)
  · rw [hlen] at this; exact this
  · rcases hok with ⟨rfl, rfl, rfl⟩ | ⟨g, o, cur, rfl, hc, hg, r⟩
    · left
      simp at h2
      have : l = 0 := by omega
      subst this h2
      exact ⟨rfl, rfl, by rw [← hy]; simp⟩
    · right
      by_cases hcl : cap = l
      · have hkl : k = l := by omega
        refine ⟨g, o, cur, by simp [hcl], by omega, hg, fun j u hj => ?_⟩
        have : ys = [] := List.eq_nil_of_length_eq_zero (by omega)
        subst this
        simp at hj
      · refine ⟨g, o + l, cur, by simp [hcl, add_eq], by omega, hg, fun j u hj => ?_⟩
        rw [← hy, List.getElem?_take] at hj
        split at hj
        · rw [List.getElem?_drop] at hj
          have := r (l + j) u hj
          rw [← Nat.add_assoc] at this
          exact this
        · cases hj
  · intro b hb
    by_cases hcl : cap = l
    · simp only [seg, if_pos hcl] at hb ⊢
      cases a with
      | none => simp [Value.ownBlock] at hb
      | some ad => simpa [Value.ownBlock] using hb
    · simp only [seg, Value.ownBlock, if_neg hcl] at hb ⊢
      cases a with
      | none => simp at hb
      | some ad =>
        simp only [Option.map_some] at hb
        have : (ad.add (l * 1)).block = ad.block := by unfold Addr.add; split <;> rfl
        rw [this] at hb
        exact hb

/-- A slice appended to the nil slice: a row of the call's own. -/
theorem One.clone (i : Nat) {t ty e by_ cap n : Nat} {a : Option Addr} {xs : List Value} (hs : Sat E w L) (hi : L[i]? = some (seg a cap e xs))
    (hv : c.view = some (.bi .append [t, t] ty [.slice none 0 0, .slice a n cap])) (hn : n = xs.length) (hT : rowT? P t = some (e, 1, by_)) (h1 : oneCells xs = true)
    (h63 : xs.length ≤ 9223372036854775807) (hby : xs.length * by_ ≤ 140737488355328)
    (h : ∀ a' cap' w', Sat E w' (row a' cap' e xs :: L) → K (.slice a' xs.length cap') w') : One P c w K := by
  subst hn
  rcases hs.ok i hi with ⟨rfl, rfl, rfl⟩ | ⟨g, o, cur, rfl, hc, hg, r⟩
  · have hT' := rowT_elim hT
    obtain ⟨ti, z, hti, hz, hsz, hb, hzs⟩ := hT'.ex
    refine One.bi' hv (fun consts => ?_) (h none 0 w (hs.rowNil 0))
    have hnc : ∀ x : Option TypeDesc, True := fun _ => trivial
    simp [builtin, Builtin.append_, run_underlying hT'.ht, sizeOf, typeInfo, hti, Builtin.lenOf, Builtin.firstCells]
  · have hs1 := hs.rowNil (e := e) 0
    have hi1 : (row none 0 e [] :: L)[0]? = some (row none 0 e []) := rfl
    refine One.appRow (xs := []) (news := xs) 0 hs1 hi1 hv rfl hT rfl ?_ h1 (by simpa using h63) (by simpa using hby) (fun a' cap' w' hs' => h a' cap' w' ?_)
    · intro j u hj
      rw [cell_blk hg]
      exact r j u hj
    · simpa using hs'

theorem Sat.segNil {e : Nat} (h : Sat E w L) (i : Nat) : Sat E w (L.take i ++ seg none 0 e [] :: L.drop i) :=
  h.insertAt i _ (.inl ⟨rfl, rfl, rfl⟩) (fun b hb => by simp [seg, Value.ownBlock] at hb)
end
end Go.Sx
