/- Bytes and texts, zeros appended, results that lie in a block, numbers of 32 bits. Of this session's own; no statement about the program. -/
import Derived.Test.YtkddomellpldjaaSxExt
import Derived.Laws.IdiomStrings
import Derived.Laws.MakeOwn
namespace Go.Sx
open Go

/-- A byte as a cell. -/
abbrev u8V (b : UInt8) : Value := .int .u8 (b.toNat : Int)
/-- A number's low byte. -/
def b8 (e : Int) : UInt8 := UInt8.ofNat (e % 256).toNat
theorem u8_b8 (e : Int) : Value.int .u8 (IntKind.u8.wrap e) = u8V (b8 e) := by
  unfold u8V b8
  rw [IntKind.wrap_u8]
  congr 1
  have h : (e % 256).toNat < 256 := by omega
  simp only [UInt8.toNat_ofNat', Nat.reducePow]
  omega

/-- A block of bytes that is read (whatever its mark). -/
def bts (b : Nat) (xs : List Value) : Res where
  fp := (· = b)
  ok w := ∃ cur e fz, w.heap[b]? = some (.cells cur e fz) ∧ ∀ (j : Nat) (u : Value), xs[j]? = some u → cur[j]? = some u
  loc w w' h k := by obtain ⟨cur, e, fz, h1, h2⟩ := k; exact ⟨cur, e, fz, by rw [h b rfl]; exact h1, h2⟩
  live w k c hc := by obtain ⟨cur, e, fz, h1, h2⟩ := k; subst hc; exact getElem_lt h1

section
variable {P : Program} {f : FuncId} {c : Cfg} {E w : World} {R : Ending → World → Prop} {K : Value → World → Prop} {L : List Res}

theorem One.loadBts (i k : Nat) {t b off : Nat} {xs : List Value} {u : Value} (hs : Sat E w L) (hi : L[i]? = some (bts b xs)) (hv : c.view = some (.load t (.pointer (some ⟨b, off, none⟩)))) (ho : off = 0 + k) (hk : xs[k]? = some u)
    (ha : ((P.underlying t).isSome && !isAggB P t) = true) (h : K u w) : One P c w K := by
  refine One.loadc ?_ hv ha h
  obtain ⟨cur, e, fz, h1, h2⟩ := hs.ok i hi
  rw [cell_blk h1, ho, Nat.zero_add]
  exact h2 k u hk

/-- What types a conversion between texts and bytes has. -/
def bytesT (P : Program) (src dst : TypeId) : Bool :=
  match P.underlying src, P.underlying dst with
  | some .string, some (.slice e) => match P.underlying e with
    | some (.int .u8) => true
    | _ => false
  | some (.slice e), some .string => match P.underlying e with
    | some (.int .u8) => true
    | _ => false
  | _, _ => false

theorem bytesT_s2b {src dst : TypeId} (h : bytesT P src dst = true) (hs : P.underlying src = some .string) : ∃ e, P.underlying dst = some (.slice e) ∧ P.underlying e = some (.int .u8) := by
  unfold bytesT at h
  rw [hs] at h
  split at h
  · rename_i e h1 h2
    refine ⟨e, h2, ?_⟩
    split at h
    · assumption
    · cases h
  · rename_i h1 h2
    cases h1
  · cases h

theorem bytesT_b2s {src dst : TypeId} (h : bytesT P src dst = true) (hs : P.underlying dst = some .string) : ∃ e, P.underlying src = some (.slice e) ∧ P.underlying e = some (.int .u8) := by
  unfold bytesT at h
  rw [hs] at h
  split at h
  · rename_i e h1 h2
    cases h2
  · rename_i e h1 h2
    refine ⟨e, h1, ?_⟩
    split at h
    · assumption
    · cases h
  · cases h

/-- '[]byte(s)'. -/
theorem One.s2b {src dst : TypeId} {s : ByteArray} (hs : Sat E w L) (hv : c.view = some (.conv src dst (.string s))) (hsrc : P.underlying src = some .string) (hT : bytesT P src dst = true)
    (h : ∀ b cap w', Sat E w' (bts b (s.data.toList.map u8V) :: L) → K (.slice (some ⟨b, 0, none⟩) s.size cap) w') : One P c w K := by
  obtain ⟨e, hd, he⟩ := bytesT_s2b hT hsrc
  refine One.conv' hv (run_bytes_of_string w src dst e s hsrc hd he) (h _ _ _ ?_)
  have hs' : Sat E w.drew L := hs.drew
  have h1 := hs'.alloc (.cells (bytesRow s (grownCap w s.size 0 e)) e ((bytesRow s (grownCap w s.size 0 e)).size, (bytesRow s (grownCap w s.size 0 e)).size + 1))
  have hsz : w.drew.heap.size = w.heap.size := rfl
  rw [hsz] at h1
  have h2 := h1.weak 0 (r' := bts w.heap.size (s.data.toList.map u8V)) rfl (fun hok => ⟨_, _, _, hok, fun j u hj => ?_⟩) (fun _ hb => hb)
  · exact h2
  · have hlt : j < s.data.size := by
      have := (List.getElem?_eq_some_iff.1 hj).1
      simpa using this
    rw [bytesRow_at s _ j hlt]
    simp only [List.getElem?_map, Array.getElem?_toList, Array.getElem?_eq_getElem hlt, Option.map_some] at hj
    exact hj

/-- 'string(b)'. -/
theorem One.b2s (i : Nat) {src dst : TypeId} {a : Option Addr} {cap n e : Nat} (l : List UInt8) (hs : Sat E w L) (hi : L[i]? = some (row a cap e (l.map u8V))) (hv : c.view = some (.conv src dst (.slice a n cap)))
    (hn : n = l.length) (hdst : P.underlying dst = some .string) (hT : bytesT P src dst = true)
    (h : K (.string ⟨l.toArray⟩) w) : One P c w K := by
  subst hn
  obtain ⟨e', hsrc, he⟩ := bytesT_b2s hT hdst
  have hok : w.ownsRow 0 e 1 (.slice a (l.map u8V).length cap) (l.map u8V).length (l.map u8V) := hs.ok i hi
  refine One.conv' hv ?_ h
  obtain ⟨a', cap', heq, hcase⟩ := ownsRow_slice hok
  cases heq
  rcases hcase with ⟨rfl, rfl, h0⟩ | ⟨g, rfl⟩
  · have hl : l = [] := by
      rw [List.length_map] at h0
      exact List.eq_nil_of_length_eq_zero h0
    subst hl
    rw [run_convert_bytes_string w src dst e' none [].length 0 hsrc he hdst]
    rfl
  · refine run_convert_bytes_back w src dst e' ⟨g, 0, none⟩ cap l hsrc he hdst (fun j hj => ?_)
    have := World.ownsRow.cells (g := g) hok rfl j (u8V l[j]) (by simp [hj])
    exact this

/-- 'make', of one length and room. -/
theorem One.mks {t e by_ n : Nat} {kl kc : IntKind} {l k : Int} (hs : Sat E w L) (hv : c.view = some (.mks t (.int kl l) (.int kc k))) (hl : l = n) (hk : k = n) (hT : rowT? P t = some (e, 1, by_)) (z : Value) (hz : (P.info? e).bind (·.zero) = some z) (hz1 : z.cells = #[z])
    (hb : by_ * n ≤ 281474976710656) (hm : n ≤ 9223372036854775807)
    (h : ∀ a cap w', Sat E w' (row a cap e (List.replicate n z) :: L) → K (.slice a n cap) w') : One P c w K := by
  subst hl hk
  have hT' := rowT_elim hT
  obtain ⟨ti, z', hti, hz', hsz, hby, hzs⟩ := hT'.ex
  obtain rfl : z = z' := by simp [hti, hz'] at hz; exact hz.symm
  have hbb : ((by_ * n : Nat) : Int) ≤ 281474976710656 := by omega
  rw [Int.natCast_mul] at hbb
  have hr := run_make (P := P) w t e ti z hT'.ht hti hz' kl kc n n (by omega) (Int.le_refl _) (by rw [hby]; exact hbb) (by omega)
  refine One.mks' hv hr (h _ _ _ ?_)
  simp only [Int.toNat_natCast, hsz, Nat.mul_one]
  have e1 : madeCells z.cells n = (List.replicate n z).toArray := by
    apply Array.ext'
    unfold madeCells
    rw [hz1]
    apply List.ext_getElem?
    intro j
    simp [List.getElem?_replicate]
    by_cases hj : j < n
    · simp [hj, Nat.mod_one]
    · simp [hj]
  rw [e1]
  have h1 := hs.alloc (.cells (List.replicate n z).toArray e)
  refine h1.weak 0 (r' := row (some ⟨w.heap.size, 0, none⟩) n e (List.replicate n z)) rfl (fun hok => ?_) (fun b hb => ?_)
  · unfold row own
    refine ⟨by simp, .inr ⟨w.heap.size, n, _, by simp, Nat.zero_le _, hok, by simp, by unfold maxLen; omega, by simp, ?_⟩⟩
    simp
  · simp [row, own, Value.ownBlock] at hb
    exact hb.symm
/-- So many zeros behind what lies in a known block, whole. -/
theorem One.appZ (i : Nat) {t it ty e by_ m : Nat} {k : IntKind} {b : Nat} {vs : List Value} (hs : Sat E w L) (hi : L[i]? = some (cel b e vs)) (hv : c.view = some (.bi .append [t, it] ty [.slice (some ⟨b, 0, none⟩) vs.length vs.length, .int .i64 (m : Int)]))
    (hT : rowT? P t = some (e, 1, by_)) (hit : P.underlying it = some (.int k)) (z : Value) (hz : (P.info? e).bind (·.zero) = some z) (hz1 : z.cells = #[z]) (hm : m ≤ 1000) (hv1 : vs.length ≤ 1000) (hb : by_ ≤ 1000)
    (h : ∀ a cap w', Sat E w' (row a cap e (vs ++ List.replicate m z) :: L.eraseIdx i) → K (.slice a (vs.length + m) cap) w') : One P c w K := by
  have hT' := rowT_elim hT
  obtain ⟨ti, z', hti, hz', hsz, hby, hzs⟩ := hT'.ex
  obtain rfl : z = z' := by simp [hti, hz'] at hz; exact hz.symm
  have hblk : w.heap[b]? = some (.cells vs.toArray e (0, 0)) := hs.ok i hi
  have w1 : IntKind.i64.wrap (m : Int) = m := IntWalk.i64_in _ ⟨by omega, by omega⟩
  have hfront := hs.front i hi
  have hl48 : ¬ ((m : Int) * (by_ : Int) > 2 ^ 48) := by
    have : m * by_ ≤ 1000 * 1000 := Nat.mul_le_mul hm hb
    have h2 : ((m * by_ : Nat) : Int) ≤ 1000000 := by omega
    rw [Int.natCast_mul] at h2
    omega
  have hl48' : ¬ (281474976710656 < (m : Int) * (by_ : Int)) := by simpa using hl48
  rcases Nat.eq_zero_or_pos m with h0 | hpos
  · subst h0
    have hr : (Builtin.append_ #[t, it] ty #[.slice (some ⟨b, 0, none⟩) vs.length vs.length, .int .i64 ((0 : Nat) : Int)]).run P w = .ok (.slice (some ⟨b, 0, none⟩) vs.length vs.length) w := by
      simp [Builtin.append_, run_underlying hT'.ht, run_underlying hit, sizeOf, typeInfo, hti, hsz, asInt, asIntOf, IntKind.wrap_i64, storeCells]
    simp only [Int.natCast_zero] at hr
    refine One.bi' hv (v' := .slice (some ⟨b, 0, none⟩) vs.length vs.length) (w' := w) (fun consts => by simp [builtin, hr]) ?_
    have := h (some ⟨b, 0, none⟩) vs.length w (by
      have h2 := hfront.weak 0 (r' := row (some ⟨b, 0, none⟩) vs.length e vs) rfl (fun _ => ?_) (fun c hc => ?_)
      · simpa using h2
      · unfold row own
        exact ⟨by simp, .inr ⟨b, vs.length, _, rfl, Nat.zero_le _, hblk, Nat.le_refl _, by unfold maxLen; omega, by simp, by simp⟩⟩
      · simp [row, own, Value.ownBlock] at hc
        exact hc.symm)
    simpa using this
  · have hn : ¬ (vs.length + m ≤ vs.length) := by omega
    have h63 : ¬ (9223372036854775807 < ((vs.length : Int) + (m : Int))) := by omega
    have hfit : ¬ (281474976710656 < Builtin.nextslicecap (vs.length + m) vs.length * by_) := by
      have h1 := growslice_fits (need := vs.length + m) (old := vs.length) (bytes := by_) (by omega) (by
        have : (vs.length + m) * by_ ≤ 2000 * 1000 := Nat.mul_le_mul (by omega) hb
        omega)
      omega
    have hm0 : m ≠ 0 := by omega
    have hfo := run_firstCells_some (P := P) w.drew 1 vs.length ⟨b, 0, none⟩ vs.length vs.length vs (by omega) (by
      intro j v hj
      rw [add_eq]
      show w.cell? _ = _
      rw [cell_blk hblk]
      simpa using hj)
    have hr : (Builtin.append_ #[t, it] ty #[.slice (some ⟨b, 0, none⟩) vs.length vs.length, .int .i64 (m : Int)]).run P w = .ok (.slice (some ⟨w.heap.size, 0, none⟩) (vs.length + m) (grownCap w (vs.length + m) vs.length e))
        (w.drew.alloc (.cells (vs.toArray ++ Builtin.zeroCells z.cells m ++ Builtin.zeroCells z.cells (grownCap w (vs.length + m) vs.length e - (vs.length + m))) e)) := by
      simp [Builtin.append_, run_underlying hT'.ht, run_underlying hit, sizeOf, typeInfo, zeroValue, hti, hz', hsz, hby, asInt, asIntOf, w1, hl48', hn, h63, hfit, hm0, Question.forced, hfo, newRow, grownCap]
      intro hbad
      omega
    refine One.bi' hv (v' := _) (w' := _) (fun consts => by simp only [builtin]; rw [show #[t, it] = [t, it].toArray from rfl] at hr; simp only [Sem.run_bind]; rw [hr]; rfl) (h _ _ _ ?_)
    have hge := grownCap_ge w (vs.length + m) vs.length e
    have hle := grownCap_le_maxLen w (vs.length + m) vs.length e (by unfold maxLen; omega)
    have hz2 : ∀ q, Builtin.zeroCells #[z] q = (List.replicate q z).toArray := fun q => by
      apply Array.ext'
      unfold Builtin.zeroCells
      apply List.ext_getElem?
      intro j
      simp [List.getElem?_replicate]
      by_cases hj : j < q
      · simp [hj, Nat.mod_one]
      · simp [hj]
    rw [hz1, hz2, hz2]
    have h1 : Sat E w.drew (L.eraseIdx i) := (hfront.drew).sub (List.sublist_cons_self _ _)
    have h2 := h1.alloc (.cells (vs.toArray ++ (List.replicate m z).toArray ++ (List.replicate (grownCap w (vs.length + m) vs.length e - (vs.length + m)) z).toArray) e)
    refine h2.weak 0 (r' := row (some ⟨w.heap.size, 0, none⟩) (grownCap w (vs.length + m) vs.length e) e (vs ++ List.replicate m z)) rfl (fun hok => ?_) (fun c hc => ?_)
    · unfold row own
      refine ⟨by simp, .inr ⟨w.heap.size, _, _, rfl, Nat.zero_le _, hok, by simpa using hge, hle, by simp; omega, ?_⟩⟩
      simp
      rw [List.take_append, List.take_of_length_le (by omega), List.take_replicate]
      congr 2
      omega
    · simp [row, own, Value.ownBlock] at hc
      exact hc.symm

theorem run_loadVar_blk {t b off : Nat} {vs : List Value} {e : TypeId} {fz : Nat × Nat} {v : Value} (h : w.heap[b]? = some (.cells vs.toArray e fz)) (hv : loadV P t vs off = some v) : (loadVar t ⟨b, off, none⟩).run P w = .ok v w := by
  have := run_loadAt_blk (P := P) h hv
  unfold Instr.loadAt Instr.sureAddr at this
  simpa using this

/-- A result that lies in a known block. -/
theorem To.retCell {fn : Func} (i a : Nat) {t b off e : Nat} {vs : List Value} {v : Value} (hs : Sat E w L) (hi : L[i]? = some (cel b e vs)) (hf : P.funcs[f]? = some fn) (hk : c.ends = true) (hr : fn.results.toList = [.cell a t])
    (hp : c.t[a]? = some (.pointer (some ⟨b, off, none⟩))) (hl : loadV P t vs off = some v) (hR : R (.returned v) w) : To P f c w R := by
  refine To.ret hf hk ?_ hR
  obtain ⟨rs, hrs⟩ : ∃ rs, fn.results = List.toArray rs := ⟨fn.results.toList, by simp⟩
  rw [hrs] at hr
  simp only [] at hr
  subst hr
  have h1 := run_loadVar_blk (P := P) (hs.ok i hi) hl
  have h2 : c.t.toArray.getD a undef = .pointer (some ⟨b, off, none⟩) := by simp [hp]
  simp [results, hrs, asAddr, hp, h1]

theorem To.retCell2 {fn : Func} (i a d : Nat) {t b off e : Nat} {vs : List Value} {v u : Value} (hs : Sat E w L) (hi : L[i]? = some (cel b e vs)) (hf : P.funcs[f]? = some fn) (hk : c.ends = true) (hr : fn.results.toList = [.cell a t, .tmp d])
    (hp : c.t[a]? = some (.pointer (some ⟨b, off, none⟩))) (hl : loadV P t vs off = some v) (hu : c.t[d]? = some u) (hR : R (.returned (.tuple #[v, u])) w) : To P f c w R := by
  refine To.ret hf hk ?_ hR
  obtain ⟨rs, hrs⟩ : ∃ rs, fn.results = List.toArray rs := ⟨fn.results.toList, by simp⟩
  rw [hrs] at hr
  simp only [] at hr
  subst hr
  have h1 := run_loadVar_blk (P := P) (hs.ok i hi) hl
  simp [results, hrs, asAddr, hp, h1, hu]
end

/-! ### numbers of 32 bits -/

/-- A number of 32 bits. -/
abbrev U (x : BitVec 32) : Value := .int .u32 (x.toNat : Int)

theorem ofInt_toNat (x : BitVec 32) : BitVec.ofInt 32 (x.toNat : Int) = x := by
  apply BitVec.eq_of_toNat_eq
  rw [BitVec.toNat_ofInt]
  have := x.isLt
  omega

theorem wrap_lt {n : Nat} (h : n < 4294967296) : IntKind.u32.wrap (n : Int) = n := wrap_u32 (by omega) (by omega)

theorem U_add (x y : BitVec 32) : Value.int .u32 (IntKind.u32.wrap ((x.toNat : Int) + (y.toNat : Int))) = U (x + y) := by
  unfold U
  rw [IntKind.wrap_u32, BitVec.toNat_add]
  congr 1
theorem U_xor (x y : BitVec 32) : Value.int .u32 (IntKind.u32.wrap ((BitVec.ofInt IntKind.u32.bits (x.toNat : Int) ^^^ BitVec.ofInt IntKind.u32.bits (y.toNat : Int)).toNat : Int)) = U (x ^^^ y) := by
  show Value.int .u32 (IntKind.u32.wrap ((BitVec.ofInt 32 (x.toNat : Int) ^^^ BitVec.ofInt 32 (y.toNat : Int)).toNat : Int)) = _
  rw [ofInt_toNat, ofInt_toNat, wrap_lt (x ^^^ y).isLt]
theorem U_or (x y : BitVec 32) : Value.int .u32 (IntKind.u32.wrap ((BitVec.ofInt IntKind.u32.bits (x.toNat : Int) ||| BitVec.ofInt IntKind.u32.bits (y.toNat : Int)).toNat : Int)) = U (x ||| y) := by
  show Value.int .u32 (IntKind.u32.wrap ((BitVec.ofInt 32 (x.toNat : Int) ||| BitVec.ofInt 32 (y.toNat : Int)).toNat : Int)) = _
  rw [ofInt_toNat, ofInt_toNat, wrap_lt (x ||| y).isLt]
theorem U_and (x y : BitVec 32) : Value.int .u32 (IntKind.u32.wrap ((BitVec.ofInt IntKind.u32.bits (x.toNat : Int) &&& BitVec.ofInt IntKind.u32.bits (y.toNat : Int)).toNat : Int)) = U (x &&& y) := by
  show Value.int .u32 (IntKind.u32.wrap ((BitVec.ofInt 32 (x.toNat : Int) &&& BitVec.ofInt 32 (y.toNat : Int)).toNat : Int)) = _
  rw [ofInt_toNat, ofInt_toNat, wrap_lt (x &&& y).isLt]
theorem U_not (x : BitVec 32) : Value.int .u32 (IntKind.u32.wrap ((BitVec.ofInt IntKind.u32.bits IntKind.u32.max ^^^ BitVec.ofInt IntKind.u32.bits (x.toNat : Int)).toNat : Int)) = U (~~~x) := by
  show Value.int .u32 (IntKind.u32.wrap ((BitVec.allOnes 32 ^^^ BitVec.ofInt 32 (x.toNat : Int)).toNat : Int)) = _
  rw [ofInt_toNat, BitVec.allOnes_xor, wrap_lt (~~~x).isLt]
theorem U_shl (x : BitVec 32) (n : Nat) (m : Int) (h : min m.toNat IntKind.u32.bits = n) : Value.int .u32 (IntKind.u32.wrap ((x.toNat : Int) * 2 ^ (min m.toNat IntKind.u32.bits))) = U (x <<< n) := by
  rw [h]
  unfold U
  rw [IntKind.wrap_u32, BitVec.toNat_shiftLeft, Nat.shiftLeft_eq]
  congr 1
theorem U_shr (x : BitVec 32) (n : Nat) (m : Int) (h : min m.toNat IntKind.u32.bits = n) : Value.int .u32 (((x.toNat : Int)).fdiv (2 ^ (min m.toNat IntKind.u32.bits))) = U (x >>> n) := by
  rw [h]
  unfold U
  rw [BitVec.toNat_ushiftRight, Nat.shiftRight_eq_div_pow, Int.fdiv_eq_ediv_of_nonneg _ (by exact Int.le_of_lt (Int.pow_pos (by decide)))]
  congr 1
/-- A byte made a number of 32 bits. -/
def w8 (b : UInt8) : BitVec 32 := BitVec.ofNat 32 b.toNat
theorem U_of8 (b : UInt8) : Value.int .u32 (IntKind.u32.wrap (b.toNat : Int)) = U (w8 b) := by
  unfold U w8
  have := b.toNat_lt
  rw [wrap_lt (by omega), BitVec.toNat_ofNat, Nat.mod_eq_of_lt (by omega)]
/-- A number's low byte. -/
def lo8 (x : BitVec 32) : UInt8 := UInt8.ofNat x.toNat
theorem U_to8 (x : BitVec 32) : Value.int .u8 (IntKind.u8.wrap (x.toNat : Int)) = u8V (lo8 x) := by
  unfold u8V lo8
  rw [IntKind.wrap_u8]
  congr 1

/-! ### bytes -/
theorem bx_shr4 (b : UInt8) : Value.int .u8 (((b.toNat : Int)).fdiv (2 ^ (min (Int.toNat 4) IntKind.u8.bits))) = Value.int .u8 ((b.toNat / 16 : Nat) : Int) := by
  rw [show min (Int.toNat 4) IntKind.u8.bits = 4 from rfl, Int.fdiv_eq_ediv_of_nonneg _ (by decide)]
  congr 1
theorem bx_and15 (b : UInt8) : Value.int .u8 (IntKind.u8.wrap ((BitVec.ofInt IntKind.u8.bits (b.toNat : Int) &&& BitVec.ofInt IntKind.u8.bits 15).toNat : Int)) = Value.int .u8 ((b.toNat % 16 : Nat) : Int) := by
  show Value.int .u8 (IntKind.u8.wrap ((BitVec.ofInt 8 (b.toNat : Int) &&& BitVec.ofInt 8 15).toNat : Int)) = _
  have h1 : (BitVec.ofInt 8 (b.toNat : Int)).toNat = b.toNat := by
    have := b.toNat_lt
    rw [BitVec.toNat_ofInt]
    omega
  rw [BitVec.toNat_and, h1, show (BitVec.ofInt 8 15).toNat = 2 ^ 4 - 1 from rfl, Nat.and_two_pow_sub_one_eq_mod, wrap_u8 (by omega) (by omega)]
theorem bx_quo16 (b : UInt8) : Value.int .u8 (IntKind.u8.wrap (((b.toNat : Int)).tdiv 16)) = Value.int .u8 ((b.toNat / 16 : Nat) : Int) := by
  have := b.toNat_lt
  have e : ((b.toNat : Int)).tdiv 16 = ((b.toNat / 16 : Nat) : Int) := by rw [Int.tdiv_eq_ediv_of_nonneg (by omega)]; rfl
  rw [e, wrap_u8 (by omega) (by omega)]
theorem bx_rem16 (b : UInt8) : Value.int .u8 (((b.toNat : Int)).tmod 16) = Value.int .u8 ((b.toNat % 16 : Nat) : Int) := by
  rw [Int.tmod_eq_emod_of_nonneg (by omega)]
  congr 1

/-! ### numbers of 64 bits, told plainly -/
theorem Q_shr (e m d : Int) (h : (2 : Int) ^ (min m.toNat IntKind.u64.bits) = d) (h0 : 0 ≤ d) : Value.int .u64 (e.fdiv (2 ^ (min m.toNat IntKind.u64.bits))) = Value.int .u64 (e / d) := by
  rw [h, Int.fdiv_eq_ediv_of_nonneg _ h0]
theorem Q_shl (e m d : Int) (h : (2 : Int) ^ (min m.toNat IntKind.u64.bits) = d) (h0 : 0 ≤ e * d ∧ e * d ≤ 18446744073709551615) : Value.int .u64 (IntKind.u64.wrap (e * 2 ^ (min m.toNat IntKind.u64.bits))) = Value.int .u64 (e * d) := by
  rw [h, wrap_u64 h0.1 h0.2]
theorem Q_rem (e m : Int) (h0 : 0 ≤ e) : Value.int .u64 (e.tmod m) = Value.int .u64 (e % m) := by
  rw [Int.tmod_eq_emod_of_nonneg h0]
end Go.Sx
