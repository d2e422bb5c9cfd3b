import Derived.Test.YthojpcfaaiefhaaProg
import Derived.Test.YthojpcfaaiefhaaSxLaw
import Derived.Test.YthojpcfaaiefhaaNwrong
import Derived.Test.YthojpcfaaiefhaaLkinds
set_option linter.unusedSimpArgs false
set_option linter.unusedVariables false
namespace Go.Proofs.Ythojpcfaaiefhaa
open Go Go.Sx
set_option linter.unusedSimpArgs false
set_option maxHeartbeats 0

theorem run_rem (t : TypeId) (k : IntKind) (a b : Int) (hb : b ≠ 0) (w : World) {P : Program} : (binOp .rem t (.int k a) (.int k b)).run P w = .ok (.int k (a.tmod b)) w := by
  simp [binOp, Op.intDiv, hb]

/-- The rest of a division. -/
theorem One.rem {P : Program} {c : Cfg} {w : World} {K : Value → World → Prop} {t : TypeId} {k : IntKind} {a b : Int} (r : Int) (hv : c.view = some (.bin .rem t (.int k a) (.int k b))) (hb : b ≠ 0) (hr : a.tmod b = r) (h : K (.int k r) w) : One P c w K :=
  One.bin' hv (fun _ _ => by simp [eqGuard]) (by rw [run_rem t k a b hb w, hr]) h

theorem tmod_nat (a b : Nat) : ((a : Int)).tmod (b : Int) = ((a % b : Nat) : Int) := by
  rw [Int.tmod_eq_emod_of_nonneg (by omega), Int.natCast_emod]

/-- Turned so often. -/
def rot (xs : List Int) (k : Nat) : List Int := xs.drop k ++ xs.take k
theorem rot_len (xs : List Int) (k : Nat) (h : k ≤ xs.length) : (rot xs k).length = xs.length := by unfold rot; simp; omega
theorem rot_cons (xs : List Int) (k : Nat) (h : k < xs.length) : rot xs k = xs[k] :: (xs.drop (k + 1) ++ xs.take k) := by
  unfold rot
  rw [List.drop_eq_getElem_cons h]; rfl
theorem rot_next (xs : List Int) (k : Nat) (h : k < xs.length) : xs.drop (k + 1) ++ xs.take k ++ [xs[k]] = rot xs (k + 1) := by
  unfold rot
  rw [List.append_assoc, ← List.take_succ_eq_append_getElem h]
theorem rot_get (xs : List Int) (k i : Nat) (hk : k ≤ xs.length) (hi : i < xs.length) : (rot xs k)[i]? = xs[(k + i) % xs.length]? := by
  unfold rot
  rw [List.getElem?_append]
  split
  · rename_i h
    rw [List.length_drop] at h
    rw [List.getElem?_drop, Nat.mod_eq_of_lt (by omega)]
  · rename_i h
    rw [List.length_drop] at h
    rw [List.length_drop, List.getElem?_take_of_lt (by omega)]
    have e : (k + i) % xs.length = i - (xs.length - k) := by
      rw [Nat.mod_eq_sub_mod (by omega), Nat.mod_eq_of_lt (by omega)]
      omega
    rw [e]

/-- The numbers that are told. -/
def Nums (W : World) (al : Option Addr) (xs : List Int) : Prop :=
  ∀ i x, xs[i]? = some x → 0 ≤ x ∧ x ≤ 65535 ∧ ∃ b off, al = some ⟨b, off, none⟩ ∧ W.cell? ⟨b, off + i, none⟩ = some (.int .u16 x)

theorem NT_third (W : World) (nb : Nat) (B C : Nat → Nat) (al : Option Addr) (cap : Nat) (xs : List Int) (hx : Nums W al xs) (hm : xs.length ≤ 10) (k : Nat) (hk : k < xs.length) :
    ∀ (m i : Nat) (j : Nat → Value) (w : World), i + m = xs.length → Sat W w [cel nb 128 (netCells 2 B), lanes 25 103 12 B C (oneAt 2 1 (((rot xs (k + 1)).drop i).map (Value.int .i64))), old W] →
      To Try.prog 9 (Cfg.here Try.f9 32 j [(0, .slice al xs.length cap), (5, .bool true), (6, .pointer (some ⟨nb, 0, none⟩)), (9, .int .i64 k), (11, .bool true), (12, .bool true), (13, .int .i64 i)]) w (LawEnd W) := by
  have i21 : isLane 2 2 1 := by decide
  intro m
  induction m with
  | zero =>
    intro i j w hi hs
    obtain rfl : i = xs.length := by omega
    rw [List.drop_eq_nil_of_le (by rw [rot_len xs (k + 1) (by omega)]; exact Nat.le_refl _), List.map_nil] at hs
    have c7 := NAllI nb 12 2 B C (oneAt 2 1 []) (by decide) (fun i => by rw [oneAt_nil]; decide)
    simp only [sumTo_zero 2 (oneAt 2 1 []) (oneAt_nil 2 1)] at c7
    refine To.run 8 ?_
    refine To.isFalse 86 (t := decide ((↑xs.length : Int) < (↑xs.length : Int))) (by kernel_rfl) (by simp) ?_
    refine To.run 13 ?_
    refine To.one (One.call 3 [0, 1] [2] (g := 57) (args := [Value.pointer (some { block := nb, off := 0 })]) (by kernel_rfl) hs (c7) (by decide) rfl ?_)
    rintro _ _ w1 ⟨rfl, rfl⟩ hs1
    simp only [pickAll, List.filterMap_cons, List.filterMap_nil, List.getElem?_cons_zero, List.getElem?_cons_succ, List.cons_append, List.nil_append, List.drop_succ_cons, List.drop_zero] at hs1
    clear hs
    refine To.run 4 ?_
    refine To.retv Try.func9 (by kernel_rfl) (v := Value.bool true) (by kernel_rfl) ?_
    exact hs1.lawEnd 2 rfl
  | succ m ih =>
    intro i j w hi hs
    have h1 : i < xs.length := by omega
    have hr := rot_get xs (k + 1) i (by omega) h1
    have hlt : (k + 1 + i) % xs.length < xs.length := Nat.mod_lt _ (by omega)
    rw [List.getElem?_eq_getElem hlt] at hr
    obtain ⟨q0, q1, b, off, rfl, hc⟩ := hx _ _ (List.getElem?_eq_getElem hlt)
    have hd : (rot xs (k + 1)).drop i = xs[(k + 1 + i) % xs.length] :: (rot xs (k + 1)).drop (i + 1) := by
      obtain ⟨hlt', e⟩ := List.getElem?_eq_some_iff.1 hr
      rw [List.drop_eq_getElem_cons hlt', e]
    rw [hd, List.map_cons] at hs
    clear hd hr
    have hmod := tmod_nat (k + 1 + i) xs.length
    obtain ⟨q, hq⟩ : ∃ q, (k + 1 + i) % xs.length = q := ⟨_, rfl⟩
    simp only [hq] at hlt hc hs q0 q1 hmod
    obtain ⟨y, hy⟩ : ∃ y, xs[q] = y := ⟨_, rfl⟩
    simp only [hy] at hc hs q0 q1
    have c1 := NTakeI_some nb 12 2 2 1 B C (oneAt 2 1 (Value.int .i64 y :: ((rot xs (k + 1)).drop (i + 1)).map (Value.int .i64))) (by decide) i21 _ _ (oneAt_at _ _ _)
    simp only [oneAt_put] at c1
    refine To.run 8 ?_
    refine To.isTrue 86 (t := decide ((↑i : Int) < (↑xs.length : Int))) (by kernel_rfl) (by (simp; omega)) ?_
    refine To.run 7 ?_
    refine To.one (One.call 3 [0, 1] [2] (g := 59) (args := [Value.pointer (some { block := nb, off := 0 }), Value.int IntKind.i64 2, Value.int IntKind.i64 1]) (by kernel_rfl) hs (c1) (by decide) rfl ?_)
    rintro _ _ w1 ⟨rfl, rfl⟩ hs1
    simp only [pickAll, List.filterMap_cons, List.filterMap_nil, List.getElem?_cons_zero, List.getElem?_cons_succ, List.cons_append, List.nil_append, List.drop_succ_cons, List.drop_zero] at hs1
    clear hs
    refine To.run 15 ?_
    refine To.known 100 (v := .int .i64 (IntKind.i64.wrap ((↑k : Int) + 1))) (.int .i64 ((↑k : Int) + 1)) (by kernel_rfl) (by rw [wrap_i64 (by omega) (by omega)]) ?_
    refine To.run 2 ?_
    refine To.known 102 (v := .int .i64 (IntKind.i64.wrap ((↑k : Int) + 1 + (↑i : Int)))) (.int .i64 ((↑k : Int) + 1 + (↑i : Int))) (by kernel_rfl) (by rw [wrap_i64 (by omega) (by omega)]) ?_
    refine To.run 2 ?_
    refine To.one (One.rem (t := 3) (k := .i64) (a := (k : Int) + 1 + i) (b := xs.length) (q : Int) (by kernel_rfl) (by omega) (by rw [← hmod]; congr 1) ?_)
    refine To.one (One.ixa (q) (off + (q)) (t := 67) (b := b) (off := off) (len := xs.length) (cap := cap) (e := 71) (sz := 1) (kd := IntKind.i64) (i := (↑q : Int)) (by kernel_rfl) (by kernel_rfl) (rfl) (by first | omega | (simp; done) | (simp; omega)) (by omega) ?_)
    refine To.one (One.loadc (t := 71) (a := ⟨b, off + q, none⟩) (v := Value.int IntKind.u16 y) (Sat.oldCell hs1 2 rfl hc) (by kernel_rfl) (by kernel_rfl) ?_)
    refine To.run 1 ?_
    refine To.known 108 (v := .int .i64 (IntKind.i64.wrap (y))) (.int .i64 (y)) (by kernel_rfl) (by rw [wrap_i64 (by omega) (by omega)]) ?_
    refine To.run 3 ?_
    refine To.isFalse 110 (t := y != y) (by kernel_rfl) (by simp) ?_
    refine To.run 6 ?_
    refine To.known 88 (v := .int .i64 (IntKind.i64.wrap ((↑i : Int) + 1))) (.int .i64 ((↑i : Int) + 1)) (by kernel_rfl) (by rw [wrap_i64 (by omega) (by omega)]) ?_
    refine To.run 2 ?_
    refine To.run 1 ?_
    refine To.at (fn := Try.f9) (n := 32) (l := [(0, Value.slice (some { block := b, off := off }) xs.length cap), (5, Value.bool true), (6, Value.pointer (some { block := nb, off := 0 })), (9, Value.int IntKind.i64 (↑k : Int)), (11, Value.bool true), (12, Value.bool true), (13, Value.int IntKind.i64 ((↑i : Int) + 1))]) (by kernel_rfl) fun j => ?_
    exact ih (i + 1) _ _ (by omega) hs1

theorem NT_second (W : World) (nb : Nat) (B C : Nat → Nat) (al : Option Addr) (cap : Nat) (xs : List Int) (hx : Nums W al xs) (hm : xs.length ≤ 10) (k : Nat) (hk : k < xs.length) :
    ∀ (m i : Nat) (j : Nat → Value) (w : World), i + m = k → Sat W w [cel nb 128 (netCells 2 B), lanes 25 103 12 B C (oneAt 2 1 ((rot xs i).map (Value.int .i64))), old W] →
      To Try.prog 9 (Cfg.here Try.f9 22 j [(0, .slice al xs.length cap), (5, .bool true), (6, .pointer (some ⟨nb, 0, none⟩)), (9, .int .i64 k), (10, .int .i64 i)]) w (LawEnd W) := by
  have i21 : isLane 2 2 1 := by decide
  intro m
  induction m with
  | zero =>
    intro i j w hi hs
    obtain rfl : i = k := by omega
    rw [rot_cons xs i hk] at hs
    have c1 := NCopyI_ok nb 12 2 2 1 B C (oneAt 2 1 ((xs[i] :: (xs.drop (i + 1) ++ xs.take i)).map (Value.int .i64))) (by decide) i21 xs[i] _ (oneAt_at _ _ _) (by simp; omega) (by decide)
    simp only [oneAt_put, List.cons_append, rot_next xs i hk] at c1
    have c2 := NLoseI_some nb 12 2 2 1 B C (oneAt 2 1 ((xs[i] :: rot xs (i + 1)).map (Value.int .i64))) (by decide) i21 (.int .i64 xs[i]) ((rot xs (i + 1)).map (Value.int .i64)) (oneAt_at _ _ _)
    simp only [oneAt_put] at c2
    refine To.run 7 ?_
    refine To.isFalse 73 (t := decide ((↑i : Int) < (↑i : Int))) (by kernel_rfl) (by simp) ?_
    refine To.run 5 ?_
    refine To.one (One.call 3 [0, 1] [2] (g := 61) (args := [Value.pointer (some { block := nb, off := 0 }), Value.int IntKind.i64 2, Value.int IntKind.i64 1]) (by kernel_rfl) hs (c1) (by decide) rfl ?_)
    rintro _ _ w1 ⟨rfl, rfl⟩ hs1
    simp only [pickAll, List.filterMap_cons, List.filterMap_nil, List.getElem?_cons_zero, List.getElem?_cons_succ, List.cons_append, List.nil_append, List.drop_succ_cons, List.drop_zero] at hs1
    clear hs
    refine To.run 5 ?_
    refine To.one (One.call 3 [0, 1] [2] (g := 62) (args := [Value.pointer (some { block := nb, off := 0 }), Value.int IntKind.i64 2, Value.int IntKind.i64 1]) (by kernel_rfl) hs1 (c2) (by decide) rfl ?_)
    rintro _ _ w2 ⟨rfl, rfl⟩ hs2
    simp only [pickAll, List.filterMap_cons, List.filterMap_nil, List.getElem?_cons_zero, List.getElem?_cons_succ, List.cons_append, List.nil_append, List.drop_succ_cons, List.drop_zero] at hs2
    clear hs1
    refine To.run 8 ?_
    refine To.run 1 ?_
    refine To.at (fn := Try.f9) (n := 32) (l := [(0, Value.slice al xs.length cap), (5, Value.bool true), (6, Value.pointer (some { block := nb, off := 0 })), (9, Value.int IntKind.i64 (↑i : Int)), (11, Value.bool true), (12, Value.bool true), (13, Value.int IntKind.i64 0)]) (by kernel_rfl) fun j => ?_
    exact NT_third W nb B C al cap xs hx hm i hk xs.length 0 _ _ (by omega) (by rw [List.drop_zero]; exact hs2)
  | succ m ih =>
    intro i j w hi hs
    have h1 : i < xs.length := by omega
    have hik : i < k := by omega
    rw [rot_cons xs i h1, List.map_cons] at hs
    have c1 := NTurnI_some nb 12 2 2 1 B C (oneAt 2 1 (Value.int .i64 xs[i] :: (xs.drop (i + 1) ++ xs.take i).map (Value.int .i64))) (by decide) i21 _ _ (oneAt_at _ _ _) (by simp; omega)
    simp only [oneAt_put] at c1
    have e : (xs.drop (i + 1) ++ xs.take i).map (Value.int .i64) ++ [Value.int .i64 xs[i]] = (rot xs (i + 1)).map (Value.int .i64) := by
      rw [← rot_next xs i h1, List.map_append (l₂ := [xs[i]])]; rfl
    rw [e] at c1
    refine To.run 7 ?_
    refine To.isTrue 73 (t := decide ((↑i : Int) < (↑k : Int))) (by kernel_rfl) (by (simp; omega)) ?_
    refine To.run 7 ?_
    refine To.one (One.call 3 [0, 1] [2] (g := 60) (args := [Value.pointer (some { block := nb, off := 0 }), Value.int IntKind.i64 2, Value.int IntKind.i64 1]) (by kernel_rfl) hs (c1) (by decide) rfl ?_)
    rintro _ _ w1 ⟨rfl, rfl⟩ hs1
    simp only [pickAll, List.filterMap_cons, List.filterMap_nil, List.getElem?_cons_zero, List.getElem?_cons_succ, List.cons_append, List.nil_append, List.drop_succ_cons, List.drop_zero] at hs1
    clear hs
    refine To.run 8 ?_
    refine To.known 75 (v := .int .i64 (IntKind.i64.wrap ((↑i : Int) + 1))) (.int .i64 ((↑i : Int) + 1)) (by kernel_rfl) (by rw [wrap_i64 (by omega) (by omega)]) ?_
    refine To.run 2 ?_
    refine To.run 1 ?_
    refine To.at (fn := Try.f9) (n := 22) (l := [(0, Value.slice al xs.length cap), (5, Value.bool true), (6, Value.pointer (some { block := nb, off := 0 })), (9, Value.int IntKind.i64 (↑k : Int)), (10, Value.int IntKind.i64 ((↑i : Int) + 1))]) (by kernel_rfl) fun j => ?_
    exact ih (i + 1) _ _ (by omega) hs1

theorem NT_first (W : World) (nb : Nat) (B C : Nat → Nat) (al : Option Addr) (cap : Nat) (xs : List Int) (hx : Nums W al xs) (hm : xs.length ≤ 10) (d : Int) (hd0 : 0 ≤ d) (hd1 : d ≤ 255) :
    ∀ (m i : Nat) (j : Nat → Value) (w : World), i + m = xs.length → Sat W w [cel nb 128 (netCells 2 B), lanes 25 103 12 B C (oneAt 2 1 ((xs.take i).map (Value.int .i64))), old W] →
      To Try.prog 9 (Cfg.here Try.f9 12 j [(0, .slice al xs.length cap), (1, .int .u8 d), (5, .bool true), (6, .pointer (some ⟨nb, 0, none⟩)), (8, .int .i64 i)]) w (LawEnd W) := by
  have i21 : isLane 2 2 1 := by decide
  intro m
  induction m with
  | zero =>
    intro i j w hi hs
    obtain rfl : i = xs.length := by omega
    rw [List.take_length] at hs
    cases xs with
    | nil =>
      have c1 := NTurnI_none nb 12 2 2 1 B C (oneAt 2 1 []) (by decide) i21 (oneAt_at _ _ _)
      have c2 := NCopyI_none nb 12 2 2 1 B C (oneAt 2 1 []) (by decide) i21 (oneAt_at _ _ _)
      have c3 := NLoseI_none nb 12 2 2 1 B C (oneAt 2 1 []) (by decide) i21 (oneAt_at _ _ _)
      rw [List.map_nil] at hs
      refine To.run 23 ?_
      refine To.one (One.call 3 [0, 1] [2] (g := 60) (args := [Value.pointer (some { block := nb, off := 0 }), Value.int IntKind.i64 2, Value.int IntKind.i64 1]) (by kernel_rfl) hs (c1) (by decide) rfl ?_)
      rintro _ _ w1 ⟨rfl, rfl⟩ hs1
      simp only [pickAll, List.filterMap_cons, List.filterMap_nil, List.getElem?_cons_zero, List.getElem?_cons_succ, List.cons_append, List.nil_append, List.drop_succ_cons, List.drop_zero] at hs1
      clear hs
      refine To.run 4 ?_
      refine To.one (One.call 3 [0, 1] [2] (g := 61) (args := [Value.pointer (some { block := nb, off := 0 }), Value.int IntKind.i64 2, Value.int IntKind.i64 1]) (by kernel_rfl) hs1 (c2) (by decide) rfl ?_)
      rintro _ _ w2 ⟨rfl, rfl⟩ hs2
      simp only [pickAll, List.filterMap_cons, List.filterMap_nil, List.getElem?_cons_zero, List.getElem?_cons_succ, List.cons_append, List.nil_append, List.drop_succ_cons, List.drop_zero] at hs2
      clear hs1
      refine To.run 4 ?_
      refine To.one (One.call 3 [0, 1] [2] (g := 62) (args := [Value.pointer (some { block := nb, off := 0 }), Value.int IntKind.i64 2, Value.int IntKind.i64 1]) (by kernel_rfl) hs2 (c3) (by decide) rfl ?_)
      rintro _ _ w3 ⟨rfl, rfl⟩ hs1
      simp only [pickAll, List.filterMap_cons, List.filterMap_nil, List.getElem?_cons_zero, List.getElem?_cons_succ, List.cons_append, List.nil_append, List.drop_succ_cons, List.drop_zero] at hs1
      clear hs2
      refine To.run 4 ?_
      refine To.retv Try.func9 (by kernel_rfl) (v := Value.bool true) (by kernel_rfl) ?_
      exact hs1.lawEnd 2 rfl
    | cons x l =>
      have hl : (x :: l).length = l.length + 1 := rfl
      obtain ⟨xs, hxs⟩ : ∃ xs, x :: l = xs := ⟨_, rfl⟩
      rw [hxs] at hs hx hm hl ⊢
      have hne : ((xs.length : Int) == 0) = false := by simp; intro h; rw [h] at hl; simp at hl
      clear hxs hi
      have hmod := tmod_nat d.toNat xs.length
      have hlt : d.toNat % xs.length < xs.length := Nat.mod_lt _ (by omega)
      obtain ⟨q, hq⟩ : ∃ q, d.toNat % xs.length = q := ⟨_, rfl⟩
      rw [hq] at hmod hlt
      rw [show ((d.toNat : Nat) : Int) = d by omega] at hmod
      refine To.run 8 ?_
      refine To.isFalse 37 (t := decide ((↑xs.length : Int) < (↑xs.length : Int))) (by kernel_rfl) (by simp) ?_
      refine To.run 9 ?_
      refine To.isFalse 49 (t := (↑xs.length : Int) == 0) (by kernel_rfl) (by assumption) ?_
      refine To.run 6 ?_
      refine To.known 67 (v := .int .i64 (IntKind.i64.wrap (d))) (.int .i64 (d)) (by kernel_rfl) (by rw [wrap_i64 (by omega) (by omega)]) ?_
      refine To.run 2 ?_
      refine To.one (One.rem (t := 3) (k := .i64) (a := d) (b := xs.length) (q : Int) (by kernel_rfl) (by omega) hmod ?_)
      refine To.run 8 ?_
      refine To.run 1 ?_
      refine To.at (fn := Try.f9) (n := 22) (l := [(0, Value.slice al xs.length cap), (5, Value.bool true), (6, Value.pointer (some { block := nb, off := 0 })), (9, Value.int IntKind.i64 (↑q : Int)), (10, Value.int IntKind.i64 0)]) (by kernel_rfl) fun j => ?_
      exact NT_second W nb B C al cap xs hx hm q hlt q 0 _ _ (by omega) (by simpa [rot] using hs)
  | succ m ih =>
    intro i j w hi hs
    have h1 : i < xs.length := by omega
    obtain ⟨q0, q1, b, off, rfl, hc⟩ := hx i _ (List.getElem?_eq_getElem h1)
    obtain ⟨y, hy⟩ : ∃ y, xs[i] = y := ⟨_, rfl⟩
    simp only [hy] at hc q0 q1
    have e : (xs.take (i + 1)).map (Value.int .i64) = (xs.take i).map (Value.int .i64) ++ [Value.int .i64 y] := by
      rw [List.take_succ_eq_append_getElem h1, List.map_append, hy]; rfl
    have c1 := NSendI_room nb 12 2 2 1 B C (oneAt 2 1 ((xs.take i).map (Value.int .i64))) (by decide) i21 (by rw [oneAt_at]; simp; omega) (.int .i64 y)
    simp only [oneAt_at, oneAt_put, ← e] at c1
    refine To.run 8 ?_
    refine To.isTrue 37 (t := decide ((↑i : Int) < (↑xs.length : Int))) (by kernel_rfl) (by (simp; omega)) ?_
    refine To.run 8 ?_
    refine To.one (One.ixa (i) (off + (i)) (t := 67) (b := b) (off := off) (len := xs.length) (cap := cap) (e := 71) (sz := 1) (kd := IntKind.i64) (i := (↑i : Int)) (by kernel_rfl) (by kernel_rfl) (rfl) (by first | omega | (simp; done) | (simp; omega)) (by omega) ?_)
    refine To.one (One.loadc (t := 71) (a := ⟨b, off + i, none⟩) (v := Value.int IntKind.u16 y) (Sat.oldCell hs 2 rfl hc) (by kernel_rfl) (by kernel_rfl) ?_)
    refine To.run 1 ?_
    refine To.known 45 (v := .int .i64 (IntKind.i64.wrap (y))) (.int .i64 (y)) (by kernel_rfl) (by rw [wrap_i64 (by omega) (by omega)]) ?_
    refine To.one (One.call 3 [0, 1] [2] (g := 56) (args := [Value.pointer (some { block := nb, off := 0 }), Value.int IntKind.i64 2, Value.int IntKind.i64 1, Value.int IntKind.i64 y]) (by kernel_rfl) hs (c1) (by decide) rfl ?_)
    rintro _ _ w1 ⟨rfl, rfl⟩ hs1
    simp only [pickAll, List.filterMap_cons, List.filterMap_nil, List.getElem?_cons_zero, List.getElem?_cons_succ, List.cons_append, List.nil_append, List.drop_succ_cons, List.drop_zero] at hs1
    clear hs
    refine To.run 5 ?_
    refine To.known 39 (v := .int .i64 (IntKind.i64.wrap ((↑i : Int) + 1))) (.int .i64 ((↑i : Int) + 1)) (by kernel_rfl) (by rw [wrap_i64 (by omega) (by omega)]) ?_
    refine To.run 2 ?_
    refine To.run 1 ?_
    refine To.at (fn := Try.f9) (n := 12) (l := [(0, Value.slice (some { block := b, off := off }) xs.length cap), (1, Value.int IntKind.u8 d), (5, Value.bool true), (6, Value.pointer (some { block := nb, off := 0 })), (8, Value.int IntKind.i64 ((↑i : Int) + 1))]) (by kernel_rfl) fun j => ?_
    exact ih (i + 1) _ _ (by omega) hs1

theorem NT_law (W : World) (a : Int) (ha0 : 0 ≤ a) (ha1 : a ≤ 255) (al : Option Addr) (len cap : Nat) (hlc : len ≤ cap) (hxs : ∀ m, m ≤ len → ∃ xs : List Int, xs.length = m ∧ Nums W al xs) :
    Calls Try.prog 9 #[.slice al len cap, .int .u8 a] W (LawEnd W) := by
  refine Sx.start (args := [_, _]) Try.func9 (by kernel_rfl) ?_
  have hs := Sat.start W
  obtain ⟨xs, hxl, hx⟩ := hxs (min len 10) (by omega)
  have hxm : xs.length ≤ 10 := by omega
  refine To.run 6 ?_
  refine To.one (One.call 1 [] [0] (g := 39) (args := []) (by kernel_rfl) hs (examples17_ok) (by decide) rfl ?_)
  rintro _ _ w1 ⟨rfl, rfl⟩ hs1
  simp only [pickAll, List.filterMap_cons, List.filterMap_nil, List.getElem?_cons_zero, List.getElem?_cons_succ, List.cons_append, List.nil_append, List.drop_succ_cons, List.drop_zero] at hs1
  clear hs
  refine To.run 12 ?_
  refine To.one (One.call 1 [] [0] (g := 55) (args := [Value.int IntKind.i64 2, Value.int IntKind.i64 12]) (by kernel_rfl) hs1 (NNewI_ok (2) (12) (by omega) (by omega) (by omega) (by omega)) (by decide) rfl ?_)
  rintro _ _ w2 ⟨nb, B, C, rfl, rfl⟩ hs2
  simp only [pickAll, List.filterMap_cons, List.filterMap_nil, List.getElem?_cons_zero, List.getElem?_cons_succ, List.cons_append, List.nil_append, List.drop_succ_cons, List.drop_zero] at hs2
  clear hs1
  refine To.run 24 ?_
  refine To.one (One.slHead (hi' := (some (Value.int IntKind.i64 (if 10 < (↑len : Int) then 10 else (↑len : Int))))) (t := 67) (e := 71) (sz := 1) (a := al) (len := len) (cap := cap) ((if 10 < (↑len : Int) then 10 else (↑len : Int)).toNat) (by kernel_rfl) (by kernel_rfl) (fun v h => ⟨_, _, (Option.some.inj h).symm, by omega⟩) (fun h => by cases h) (by first | omega | (simp; done) | (simp; omega)) ?_)
  refine To.run 8 ?_
  refine To.known 0 (v := .slice al (if 10 < (len : Int) then 10 else (len : Int)).toNat cap) (.slice al xs.length cap) (by kernel_rfl) (by congr 1; split <;> omega) ?_
  clear hxl
  refine To.run 1 ?_
  refine To.at (fn := Try.f9) (n := 12) (l := [(0, Value.slice al xs.length cap), (1, Value.int IntKind.u8 a), (5, Value.bool true), (6, Value.pointer (some { block := nb, off := 0 })), (8, Value.int IntKind.i64 0)]) (by kernel_rfl) fun j => ?_
  exact NT_first W nb B C al cap xs hx hxm a ha0 ha1 xs.length 0 _ _ (by omega) (by rw [List.take_zero, List.map_nil]; exact hs2)
end Go.Proofs.Ythojpcfaaiefhaa
