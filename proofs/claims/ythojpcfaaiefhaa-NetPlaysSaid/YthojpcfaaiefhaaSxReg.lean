/- A region whose order is open: what nobody in it turns may be looked at first. Of this session's own; no statement about the program. -/
import Derived.Test.YthojpcfaaiefhaaSxMore
import Derived.OrdersHeld
namespace Go.Sx
open Go

theorem wrap_i64 {e : Int} (h1 : -9223372036854775808 ≤ e) (h2 : e ≤ 9223372036854775807) : IntKind.i64.wrap e = e := IntWalk.i64_in e ⟨h1, h2⟩
theorem wrap_u64 {e : Int} (h1 : 0 ≤ e) (h2 : e ≤ 18446744073709551615) : IntKind.u64.wrap e = e := by rw [IntKind.wrap_u64]; omega
theorem wrap_u32 {e : Int} (h1 : 0 ≤ e) (h2 : e ≤ 4294967295) : IntKind.u32.wrap e = e := by rw [IntKind.wrap_u32]; omega
theorem wrap_u16 {e : Int} (h1 : 0 ≤ e) (h2 : e ≤ 65535) : IntKind.u16.wrap e = e := by rw [IntKind.wrap_u16]; omega
theorem wrap_u8 {e : Int} (h1 : 0 ≤ e) (h2 : e ≤ 255) : IntKind.u8.wrap e = e := by rw [IntKind.wrap_u8]; omega

/-- These things are there. -/
def Holds (B : List Res) (w : World) : Prop := ∀ r ∈ B, r.ok w

theorem Sat.holds {E w : World} {L B : List Res} (h : Sat E w L) (idx : List Nat) (e : pickAll idx L = B) : Holds B w := by
  intro r hr
  subst e
  obtain ⟨i, _, hi⟩ := List.mem_filterMap.1 hr
  exact h.ok i hi

def Cfg.draws (c : Cfg) : Bool :=
  match c.k with
  | .code (.region _ _ true) :: _ => true
  | _ => false
def Cfg.rops (c : Cfg) : Array Oper :=
  match c.k with
  | .code (.region _ ops true) :: _ => ops
  | _ => #[]
def Cfg.rnext (c : Cfg) : Cfg := ⟨c.t, c.k.tail⟩

theorem view_load {ρ : Operand → Value} {o : Oper} {t : TypeId} {a : Value} (h : viewOf ρ o = some (.load t a)) : execOp ρ o = (do pure (.value (← Instr.loadAt t a)) : Sem Next) := by
  obtain ⟨dst, op, ty, pos, after, guard⟩ := o
  unfold viewOf at h
  dsimp only at h
  split at h <;> cases h
  rfl

section
variable {P : Program} {f : FuncId} {R : Ending → World → Prop} {ops : Array Oper} {B : List Res}

def RegQ (P : Program) (f : FuncId) (k : List Item) (R : Ending → World → Prop) : Exit → Act → World → Prop
  | .normal, a, w => a.defers = [] ∧ To P f ⟨a.tmps.toList, k⟩ w R
  | _, _, _ => False

/-- In the midst of a region: what has come up, what the temporaries hold. -/
def Reg (P : Program) (f : FuncId) (ops : Array Oper) (B : List Res) (R : Ending → World → Prop) (fuel : Nat) (listed : Array Bool) (c : Cfg) (w : World) : Prop :=
  wpAnyH P .any ops (RegQ P f c.k R) (Holds B) fuel listed ⟨c.t.toArray, []⟩ w

theorem To.draw {E : World} {L : List Res} {c : Cfg} {w : World} (B : List Res) (n : Nat) (hs : Sat E w L) (hd : c.draws = true) (hm : P.follows .mixedOrders = true) (hn : c.rops.size = n)
    (h : ∀ w', Sat E w' L → Reg P f c.rops B R n (Array.replicate n false) c.rnext w') : To P f c w R := by
  have h1 := h w.drew hs.drew
  obtain ⟨t, k⟩ := c
  unfold Cfg.draws at hd
  dsimp only at hd
  split at hd
  · rename_i id ops k'
    have hw := wp_region_held (P := P) (ops := ops) (Q := RegQ P f k' R) (S := Holds B) (id := id) (a := ⟨t.toArray, []⟩) (w := w) hm (by
      have e : (Cfg.mk t (.code (.region id ops true) :: k')).rops = ops := rfl
      rw [e] at h1 hn
      rw [hn]
      exact h1)
    intro cs
    obtain ⟨e, a', w', hq, harr⟩ := hw (bs f) k' cs
    cases e with
    | normal =>
      obtain ⟨hdf, hto⟩ := hq
      obtain ⟨e₂, w₂, g, hR, hc, hf, hl⟩ := hto cs
      refine ⟨e₂, w₂, g, hR, ?_, hf, hl⟩
      refine Comes.of_steps harr ?_
      have ea : a' = ⟨a'.tmps.toList.toArray, []⟩ := by cases a'; simp at hdf ⊢; exact hdf
      rw [ea]
      exact hc
    | _ => exact hq.elim
  · cases hd

theorem RegQ_panic (k : List Item) (dst : Option Tmp) (v : Value) : ∀ c a w, RegQ P f k R (.panic c) (Act.put a dst v) w → RegQ P f k R (.panic c) a w := fun _ _ _ h => h.elim

/-- Operation i at temporaries t, alone. -/
def Cfg.only (c : Cfg) (ops : Array Oper) (i : Nat) : Cfg := ⟨c.t, [.inRegion ops [i]]⟩
def Cfg.rput (c : Cfg) (ops : Array Oper) (i : Nat) (v : Value) : Cfg := ⟨put c.t ((ops[i]?).bind (·.dst)) v, c.k⟩

def regOk (ops : Array Oper) (listed : Array Bool) (i : Nat) : Bool := Region.noSelect ops && Region.free .any ops listed i && (Region.ready .any ops listed).contains i

/-- What operation i yields, whatever the world: undef where it is not wanted. -/
def regVal (P : Program) (ops : Array Oper) (t : List Value) (i : Nat) : Option Value :=
  match ops[i]? with
  | some o => match Region.wanted o (yl ops t) with
    | true => opVal P t o
    | false => some undef
  | none => none

theorem Reg.takeIf {fuel : Nat} {listed : Array Bool} {c : Cfg} {w : World} (i : Nat) {o : Oper} {v : Value} (ho : ops[i]? = some o) (hi : regOk ops listed i = true) (hy : YieldsIf P ops (Holds B) o v ⟨c.t.toArray, []⟩) (hb : Holds B w)
    (h : Reg P f ops B R fuel (listed.setIfInBounds i true) (c.rput ops i v) w) : Reg P f ops B R (fuel + 1) listed c w := by
  unfold regOk at hi
  simp only [Bool.and_eq_true] at hi
  refine wpAnyH_take ho hi.1.1 hi.1.2 hi.2 (RegQ_panic c.k _ _) hy hb ?_
  unfold Reg at h
  simp only [Cfg.rput, ho, Option.bind_some] at h
  rw [act_put]
  exact h

theorem Reg.pure {fuel : Nat} {listed : Array Bool} {c : Cfg} {w : World} (i : Nat) (hb : Holds B w) (hi : (regOk ops listed i && (regVal P ops c.t i).isSome) = true)
    (h : Reg P f ops B R fuel (listed.setIfInBounds i true) (c.rput ops i ((regVal P ops c.t i).getD undef)) w) : Reg P f ops B R (fuel + 1) listed c w := by
  simp only [Bool.and_eq_true] at hi
  obtain ⟨hi, hv⟩ := hi
  obtain ⟨v, hv⟩ := Option.isSome_iff_exists.1 hv
  rw [hv, Option.getD_some] at h
  unfold regVal at hv
  split at hv
  · rename_i o ho
    refine Reg.takeIf i ho hi ?_ hb h
    split at hv
    · rename_i hw
      refine .inl ⟨by rw [yl_eq]; exact hw, fun w' _ => ?_⟩
      rw [eval_ev]
      unfold opVal at hv
      split at hv
      · rename_i v' hp; cases hv; exact pureVal_run hp w'
      · cases hv
    · rename_i hw
      cases hv
      exact .inr ⟨by rw [yl_eq]; exact hw, rfl⟩
  · cases hv

/-- Several of them, one behind the other. -/
def regRun (P : Program) (ops : Array Oper) : List Nat → Cfg → Cfg
  | [], c => c
  | i :: is, c => regRun P ops is (c.rput ops i ((regVal P ops c.t i).getD undef))
def regList (is : List Nat) (listed : Array Bool) : Array Bool := is.foldl (fun l i => l.setIfInBounds i true) listed
def regRunOk (P : Program) (ops : Array Oper) : List Nat → Array Bool → Cfg → Bool
  | [], _, _ => true
  | i :: is, listed, c => (regOk ops listed i && (regVal P ops c.t i).isSome) && regRunOk P ops is (listed.setIfInBounds i true) (c.rput ops i ((regVal P ops c.t i).getD undef))

theorem Reg.pures (is : List Nat) : ∀ {fuel fuel' : Nat} {listed : Array Bool} {c : Cfg} {w : World}, Holds B w → fuel = fuel' + is.length → regRunOk P ops is listed c = true →
    Reg P f ops B R fuel' (regList is listed) (regRun P ops is c) w → Reg P f ops B R fuel listed c w := by
  induction is with
  | nil => intro fuel fuel' listed c w _ hf _ h; simp at hf; subst hf; exact h
  | cons i is ih =>
    intro fuel fuel' listed c w hb hf hok h
    simp only [regRunOk] at hok
    rw [Bool.and_eq_true] at hok
    have hf' : fuel = (fuel' + is.length) + 1 := by simp at hf; omega
    subst hf'
    exact Reg.pure i hb hok.1 (ih hb rfl hok.2 h)

/-- A load from a thing that is there throughout. -/
theorem Reg.load {fuel : Nat} {listed : Array Bool} {c : Cfg} {w : World} (i m : Nat) {t b off : Nat} {vs : List Value} {e : TypeId} {v : Value} (hb : Holds B w) (hm : B[m]? = some (cel b e vs)) (hi : regOk ops listed i = true)
    (hv : (c.only ops i).view = some (.load t (.pointer (some ⟨b, off, none⟩)))) (hl : loadV P t vs off = some v)
    (h : Reg P f ops B R fuel (listed.setIfInBounds i true) (c.rput ops i v) w) : Reg P f ops B R (fuel + 1) listed c w := by
  obtain ⟨o, ho, hvo⟩ := view_elim hv
  obtain ⟨ops', i', r, k, hk, hoi, hw, _⟩ := cur_elim ho
  simp only [Cfg.only, List.cons.injEq, Item.inRegion.injEq] at hk
  obtain ⟨⟨rfl, rfl, rfl⟩, rfl⟩ := hk
  refine Reg.takeIf i hoi hi (.inl ⟨by rw [yl_eq]; exact hw, fun w' hw' => ?_⟩) hb h
  rw [eval_ev]
  have hld := run_loadAt_blk (P := P) (hw' _ (List.mem_of_getElem? hm)) hl
  have hx := view_load hvo
  rw [show ev c.t = ev (c.only ops i).t from rfl, hx]
  simp [hld]

/-- A load of one cell of what was there from the beginning. -/
theorem Reg.loadOld {fuel : Nat} {listed : Array Bool} {c : Cfg} {w : World} (i m : Nat) {t : Nat} {a : Addr} {v : Value} {W : World} (hb : Holds B w) (hm : B[m]? = some (old W)) (hc : W.cell? a = some v) (hi : regOk ops listed i = true)
    (hv : (c.only ops i).view = some (.load t (.pointer (some a)))) (ha : ((P.underlying t).isSome && !isAggB P t) = true)
    (h : Reg P f ops B R fuel (listed.setIfInBounds i true) (c.rput ops i v) w) : Reg P f ops B R (fuel + 1) listed c w := by
  obtain ⟨o, ho, hvo⟩ := view_elim hv
  obtain ⟨ops', i', r, k, hk, hoi, hw, _⟩ := cur_elim ho
  simp only [Cfg.only, List.cons.injEq, Item.inRegion.injEq] at hk
  obtain ⟨⟨rfl, rfl, rfl⟩, rfl⟩ := hk
  refine Reg.takeIf i hoi hi (.inl ⟨by rw [yl_eq]; exact hw, fun w' hw' => ?_⟩) hb h
  rw [eval_ev]
  have hold := hw' _ (List.mem_of_getElem? hm)
  have hcell : w'.cell? a = some v := (World.cell?_of_block (hold.2 a.block (World.block_lt_of_cell? W a hc))).trans hc
  simp only [Bool.and_eq_true, Option.isSome_iff_exists] at ha
  obtain ⟨⟨d, hd⟩, ha⟩ := ha
  unfold isAggB at ha
  rw [hd] at ha
  have hld : (Instr.loadAt t (.pointer (some a))).run P w' = .ok v w' := by
    unfold Instr.loadAt Instr.sureAddr loadVar
    simp only [Sem.run_bind, Sem.run_pure, Result.andThen_ok, run_isAgg hd]
    cases d <;> simp_all
  have hx := view_load hvo
  rw [show ev c.t = ev (c.only ops i).t from rfl, hx]
  simp [hld]

theorem run_loadAt_cell {P : Program} {w : World} {t : TypeId} {a : Addr} {v : Value} (hc : w.cell? a = some v) (ha : ((P.underlying t).isSome && !isAggB P t) = true) : (Instr.loadAt t (.pointer (some a))).run P w = .ok v w := by
  simp only [Bool.and_eq_true, Option.isSome_iff_exists] at ha
  obtain ⟨⟨d, hd⟩, ha⟩ := ha
  unfold isAggB at ha
  rw [hd] at ha
  unfold Instr.loadAt Instr.sureAddr loadVar
  simp only [Sem.run_bind, Sem.run_pure, Result.andThen_ok, run_isAgg hd]
  cases d <;> simp_all

theorem Reg.loadSeg {fuel : Nat} {listed : Array Bool} {c : Cfg} {w : World} (i m k : Nat) {t b o off cap e : Nat} {xs : List Value} {v : Value} (hb : Holds B w) (hm : B[m]? = some (seg (some ⟨b, o, none⟩) cap e xs)) (hi : regOk ops listed i = true)
    (hv : (c.only ops i).view = some (.load t (.pointer (some ⟨b, off, none⟩)))) (ho : off = o + k) (hk : xs[k]? = some v) (ha : ((P.underlying t).isSome && !isAggB P t) = true)
    (h : Reg P f ops B R fuel (listed.setIfInBounds i true) (c.rput ops i v) w) : Reg P f ops B R (fuel + 1) listed c w := by
  obtain ⟨o', ho', hvo⟩ := view_elim hv
  obtain ⟨ops', i', r, kk, hkk, hoi, hw, _⟩ := cur_elim ho'
  simp only [Cfg.only, List.cons.injEq, Item.inRegion.injEq] at hkk
  obtain ⟨⟨rfl, rfl, rfl⟩, rfl⟩ := hkk
  refine Reg.takeIf i hoi hi (.inl ⟨by rw [yl_eq]; exact hw, fun w' hw' => ?_⟩) hb h
  rw [eval_ev]
  have hcell : w'.cell? ⟨b, off, none⟩ = some v := by
    rcases hw' _ (List.mem_of_getElem? hm) with ⟨h0, _, _⟩ | ⟨g, o2, cur, he, _, hg, r⟩
    · cases h0
    · cases he
      rw [cell_blk hg, ho]
      exact r k v hk
  have hx := view_load hvo
  rw [show ev c.t = ev (c.only ops i).t from rfl, hx]
  simp [run_loadAt_cell hcell ha]

theorem Holds.rowSeg {w : World} {a : Option Addr} {cap e : Nat} {xs : List Value} (h : (row a cap e xs).ok w) : (seg a cap e xs).ok w := by
  have hok' : w.ownsRow 0 e 1 (.slice a xs.length cap) xs.length xs := h
  rcases hok'.2 with ⟨he, h0⟩ | ⟨g, cap', cur, he, _, hg, hc, _, hsz, ht⟩
  · injection he with e1 e2 e3
    exact .inl ⟨e1, e3, List.eq_nil_of_length_eq_zero h0⟩
  · cases he
    refine .inr ⟨g, 0, cur, rfl, hc, hg, fun j u hj => ?_⟩
    rw [← ht, List.getElem?_take] at hj
    split at hj
    · simpa using hj
    · cases hj

/-- What yields one thing wherever the things of B are there. -/
theorem Reg.val {fuel : Nat} {listed : Array Bool} {c : Cfg} {w : World} (i : Nat) {v : Value} (hb : Holds B w) (hi : regOk ops listed i = true) (hcur : ((c.only ops i).cur).isSome = true) (hy : ∀ w', Holds B w' → Val P (c.only ops i) w' v)
    (h : Reg P f ops B R fuel (listed.setIfInBounds i true) (c.rput ops i v) w) : Reg P f ops B R (fuel + 1) listed c w := by
  obtain ⟨o, ho⟩ := Option.isSome_iff_exists.1 hcur
  obtain ⟨ops', i', r, k, hk, hoi, hw, _⟩ := cur_elim ho
  simp only [Cfg.only, List.cons.injEq, Item.inRegion.injEq] at hk
  obtain ⟨⟨rfl, rfl, rfl⟩, rfl⟩ := hk
  refine Reg.takeIf i hoi hi (.inl ⟨by rw [yl_eq]; exact hw, fun w' hw' => ?_⟩) hb h
  rw [eval_ev]
  obtain ⟨o', ho', hr⟩ := hy w' hw'
  rw [ho] at ho'
  cases ho'
  exact hr

/-- Any operation that turns no memory, by its own step: what it yields wherever the things of B are there. -/
theorem Reg.look {fuel : Nat} {listed : Array Bool} {c : Cfg} {w : World} (i : Nat) (v : Value) (hb : Holds B w) (hi : regOk ops listed i = true) (hcur : ((c.only ops i).cur).isSome = true)
    (hy : ∀ w', Holds B w' → ∀ o, (c.only ops i).cur = some o → (execOp (ev c.t) o).run P w' = .ok (.value v) w')
    (h : Reg P f ops B R fuel (listed.setIfInBounds i true) (c.rput ops i v) w) : Reg P f ops B R (fuel + 1) listed c w := by
  obtain ⟨o, ho⟩ := Option.isSome_iff_exists.1 hcur
  obtain ⟨ops', i', r, k, hk, hoi, hw, _⟩ := cur_elim ho
  simp only [Cfg.only, List.cons.injEq, Item.inRegion.injEq] at hk
  obtain ⟨⟨rfl, rfl, rfl⟩, rfl⟩ := hk
  exact Reg.takeIf i hoi hi (.inl ⟨by rw [yl_eq]; exact hw, fun w' hw' => by rw [eval_ev]; exact hy w' hw' o ho⟩) hb h

/-- One operation, carried out; then the things of B are there again. -/
theorem wpOp_one {c : Cfg} {w : World} {i : Nat} {Q : Exit → Act → World → Prop} {K : Act → World → Prop} (h : One P (c.only ops i) w fun v w' => K ⟨(c.rput ops i v).t.toArray, []⟩ w') : wpOp P ops Q i K ⟨c.t.toArray, []⟩ w := by
  obtain ⟨o, ho, h⟩ := h
  obtain ⟨ops', i', r, k, hk, hoi, hw, _⟩ := cur_elim ho
  simp only [Cfg.only, List.cons.injEq, Item.inRegion.injEq] at hk
  obtain ⟨⟨rfl, rfl, rfl⟩, rfl⟩ := hk
  unfold wpOp
  simp only [hoi]
  have hw' : Region.wanted o (yielded ops c.t.toArray) = true := by rw [yl_eq]; exact hw
  simp only [hw', if_true]
  refine .inl ?_
  unfold Oper.wp
  rw [eval_ev]
  have hput : ∀ v, (Act.put ⟨c.t.toArray, []⟩ o.dst v) = ⟨(c.rput ops i v).t.toArray, []⟩ := fun v => by rw [act_put]; simp [Cfg.rput, hoi]
  unfold OneOp at h
  simp only [Cfg.only] at h
  split at h
  · rename_i v w' hr; rw [hr, Oper.upon_value, hput]; exact h
  · rename_i w' hr; rw [hr, Oper.upon_skip, hput]; exact h
  · rename_i g args w₁ hr
    rw [hr, Oper.upon_enter]
    refine h.mono ?_
    rintro e w' ⟨v, rfl, hk⟩
    show K _ _
    rw [hput]; exact hk
  · exact h.elim

theorem Reg.step {fuel : Nat} {listed : Array Bool} {c : Cfg} {w : World} (i : Nat) (hr : Region.ready .any ops listed = [i])
    (h : One P (c.only ops i) w fun v w' => Holds B w' ∧ Reg P f ops B R fuel (listed.setIfInBounds i true) (c.rput ops i v) w') : Reg P f ops B R (fuel + 1) listed c w := by
  refine wpAnyH_all hr (by simp) ?_
  intro j hj
  simp at hj
  subst hj
  exact wpOp_one h

theorem Reg.step2 {fuel : Nat} {listed : Array Bool} {c : Cfg} {w : World} (i j : Nat) (hr : Region.ready .any ops listed = [i, j])
    (h1 : One P (c.only ops i) w fun v w' => Holds B w' ∧ Reg P f ops B R fuel (listed.setIfInBounds i true) (c.rput ops i v) w')
    (h2 : One P (c.only ops j) w fun v w' => Holds B w' ∧ Reg P f ops B R fuel (listed.setIfInBounds j true) (c.rput ops j v) w') : Reg P f ops B R (fuel + 1) listed c w := by
  refine wpAnyH_all hr (by simp) ?_
  intro k hk
  simp at hk
  rcases hk with rfl | rfl
  · exact wpOp_one h1
  · exact wpOp_one h2

theorem Reg.known {fuel : Nat} {listed : Array Bool} {c : Cfg} {w : World} (s : Nat) {v : Value} (v' : Value) (hs : c.t[s]? = some v) (e : v = v') (h : Reg P f ops B R fuel listed (c.set s v') w) : Reg P f ops B R fuel listed c w := by
  subst e
  rw [set_get_same c s v hs] at h
  exact h

theorem Reg.split {fuel : Nat} {listed : Array Bool} {c : Cfg} {w : World} (s : Nat) {t : Bool} (hs : c.t[s]? = some (.bool t))
    (ht : t = true → Reg P f ops B R fuel listed (c.set s (.bool true)) w) (hf : t = false → Reg P f ops B R fuel listed (c.set s (.bool false)) w) : Reg P f ops B R fuel listed c w := by
  cases t
  · exact Reg.known s _ hs rfl (hf rfl)
  · exact Reg.known s _ hs rfl (ht rfl)

theorem Reg.isTrue {fuel : Nat} {listed : Array Bool} {c : Cfg} {w : World} (s : Nat) {t : Bool} (hs : c.t[s]? = some (.bool t)) (e : t = true) (h : Reg P f ops B R fuel listed (c.set s (.bool true)) w) : Reg P f ops B R fuel listed c w :=
  Reg.known s _ hs (by rw [e]) h
theorem Reg.isFalse {fuel : Nat} {listed : Array Bool} {c : Cfg} {w : World} (s : Nat) {t : Bool} (hs : c.t[s]? = some (.bool t)) (e : t = false) (h : Reg P f ops B R fuel listed (c.set s (.bool false)) w) : Reg P f ops B R fuel listed c w :=
  Reg.known s _ hs (by rw [e]) h

theorem Reg.done {fuel : Nat} {listed : Array Bool} {c : Cfg} {w : World} (hr : Region.ready .any ops listed = []) (h : To P f c w R) : Reg P f ops B R fuel listed c w := by
  refine wpAnyH_done hr ?_ fuel
  exact ⟨rfl, by simpa using h⟩
end
end Go.Sx
