import Derived.Test.YthojpcfaaiefhaaProg
import Derived.Test.YthojpcfaaiefhaaSxLaw
import Derived.Test.YthojpcfaaiefhaaNlanes
set_option linter.unusedSimpArgs false
set_option linter.unusedVariables false
namespace Go.Proofs.Ythojpcfaaiefhaa
open Go Go.Sx
set_option linter.unusedSimpArgs false
set_option maxHeartbeats 0

/-- What is left in the lanes from the p-th on. -/
def Left (X Y : Nat → List Value) (p : Nat) : Prop := ∀ f t : Nat, isLane 3 f t → X (ln f t) = if f * 4 + t < p then [] else Y (f * 4 + t)

theorem left_put {X Y : Nat → List Value} {f t : Nat} (h : Left X Y (f * 4 + t)) (hf1 : 1 ≤ f) (hf3 : f ≤ 3) (ht1 : 1 ≤ t) (ht3 : t ≤ 3) : Left (putAt X (ln f t) []) Y (f * 4 + (t + 1)) := by
  intro g u hgu
  have h0 := h g u hgu
  obtain ⟨a1, a2, a3, a4, a5⟩ := hgu
  unfold putAt
  by_cases hc : ln g u = ln f t
  · obtain ⟨rfl, rfl⟩ := ln_inj (by omega) (by omega) hc
    rw [if_pos hc, if_pos (by omega)]
  · rw [if_neg hc, h0]
    have hne : g * 4 + u ≠ f * 4 + t := by
      intro e
      apply hc
      have e1 : g = f := by omega
      have e2 : u = t := by omega
      rw [e1, e2]
    by_cases hlt : g * 4 + u < f * 4 + t
    · rw [if_pos hlt, if_pos (by omega)]
    · rw [if_neg hlt, if_neg (by omega)]

theorem left_same {X Y : Nat → List Value} {p q : Nat} (h : Left X Y p) (hq : ∀ g u : Nat, isLane 3 g u → (g * 4 + u < p ↔ g * 4 + u < q)) : Left X Y q := by
  intro g u hgu
  rw [h g u hgu]
  have := hq g u hgu
  by_cases hlt : g * 4 + u < p
  · rw [if_pos hlt, if_pos (this.1 hlt)]
  · rw [if_neg hlt, if_neg (fun e => hlt (this.2 e))]

theorem NL_take (W : World) (nb b1 : Nat) (B C : Nat → Nat) (A : Nat → Option Addr) (K : Nat → Nat) (Y : Nat → List Value) (hI : Ints Y) (hYl : ∀ f t : Nat, isLane 3 f t → (Y (f * 4 + t)).length ≤ 16) (f t : Nat) (hf1 : 1 ≤ f) (hf3 : f ≤ 3) (ht1 : 1 ≤ t) (ht3 : t ≤ 3) (hft : ¬ f = t)
    (fin : ∀ (X : Nat → List Value) (j : Nat → Value) (w : World), (∀ i, (X i).length ≤ 16) → Left X Y (f * 4 + (t + 1)) → Sat W w [cel b1 94 (sliceCells A K Y), rows16 A K Y, cel nb 128 (netCells 3 B), lanes 25 103 16 B C X, old W] → To Try.prog 8 (Cfg.here Try.f8 35 j [(3, .bool true), (4, .pointer (some ⟨nb, 0, none⟩)), (6, .pointer (some ⟨b1, 0, none⟩)), (12, .int .i64 f), (13, .int .i64 (t + 1))]) w (LawEnd W)) :
    ∀ (m i : Nat) (X : Nat → List Value) (j : Nat → Value) (w : World), i + m = (Y (f * 4 + t)).length → (∀ i, (X i).length ≤ 16) → X (ln f t) = (Y (f * 4 + t)).drop i → Left (putAt X (ln f t) (Y (f * 4 + t))) Y (f * 4 + t) → Sat W w [cel b1 94 (sliceCells A K Y), rows16 A K Y, cel nb 128 (netCells 3 B), lanes 25 103 16 B C X, old W] →
      To Try.prog 8 (Cfg.here Try.f8 44 j [(3, .bool true), (4, .pointer (some ⟨nb, 0, none⟩)), (6, .pointer (some ⟨b1, 0, none⟩)), (12, .int .i64 f), (13, .int .i64 t), (14, .int .i64 i)]) w (LawEnd W) := by
  have his : isLane 3 f t := by unfold isLane; omega
  have hk : f * 4 + t < 16 := by omega
  have hL := loadS A K Y (f * 4 + t) hk
  have hYk := hYl f t his
  intro m
  induction m with
  | zero =>
    intro i X j w hi hXb hX hXl hs
    obtain rfl : i = (Y (f * 4 + t)).length := by omega
    rw [List.drop_length] at hX
    have c1 := NTakeI_none nb 16 3 f t B C X (by decide) his hX
    refine To.run 6 ?_
    refine To.one (One.ixaA (f) ((f) * 4) (t := 94) (b := b1) (off := 0) (n := 4) (sz := 4) (kd := IntKind.i64) (i := (↑f : Int)) (by kernel_rfl) (by kernel_rfl) (rfl) (by omega) (by omega) ?_)
    refine To.one (One.ixaA (t) (f * 4 + (t)) (t := 93) (b := b1) (off := f * 4) (n := 4) (sz := 1) (kd := IntKind.i64) (i := (↑t : Int)) (by kernel_rfl) (by kernel_rfl) (rfl) (by omega) (by omega) ?_)
    refine To.one (One.load 0 (t := 33) (off := f * 4 + t) (v := Value.slice (A (f * 4 + t)) (Y (f * 4 + t)).length (K (f * 4 + t))) hs rfl (by kernel_rfl) hL ?_)
    refine To.run 3 ?_
    refine To.isFalse 121 (t := decide ((↑(Y (f * 4 + t)).length : Int) < (↑(Y (f * 4 + t)).length : Int))) (by kernel_rfl) (by simp) ?_
    refine To.run 7 ?_
    refine To.one (One.call 5 [2, 3] [0, 1, 4] (g := 59) (args := [Value.pointer (some { block := nb, off := 0 }), Value.int IntKind.i64 (↑f : Int), Value.int IntKind.i64 (↑t : Int)]) (by kernel_rfl) hs (c1) (by decide) rfl ?_)
    rintro _ _ w1 ⟨rfl, rfl⟩ hs1
    simp only [pickAll, List.filterMap_cons, List.filterMap_nil, List.getElem?_cons_zero, List.getElem?_cons_succ, List.cons_append, List.nil_append, List.drop_succ_cons, List.drop_zero] at hs1
    clear hs
    refine To.run 16 ?_
    refine To.known 102 (v := .int .i64 (IntKind.i64.wrap ((↑t : Int) + 1))) (.int .i64 ((↑t : Int) + 1)) (by kernel_rfl) (by rw [wrap_i64 (by omega) (by omega)]) ?_
    refine To.run 2 ?_
    refine To.run 1 ?_
    refine To.at (fn := Try.f8) (n := 35) (l := [(3, Value.bool true), (4, Value.pointer (some { block := nb, off := 0 })), (6, Value.pointer (some { block := b1, off := 0 })), (12, Value.int IntKind.i64 (↑f : Int)), (13, Value.int IntKind.i64 ((↑t : Int) + 1))]) (by kernel_rfl) fun j => ?_
    have hX' := left_put hXl hf1 hf3 ht1 ht3
    rw [putAt_putAt, show putAt X (ln f t) [] = X from by funext q; unfold putAt; split <;> simp_all] at hX'
    exact fin X _ _ hXb hX' (hs1.get [2, 3, 0, 1, 4] (by decide) rfl)
  | succ m ih =>
    intro i X j w hi hXb hX hXl hs
    have h1 : i < (Y (f * 4 + t)).length := by omega
    have h16 : i < 16 := by omega
    obtain ⟨x, hx⟩ := hI (f * 4 + t) _ (List.getElem_mem h1)
    have hxi : (Y (f * 4 + t))[i]? = some (Value.int .i64 x) := by rw [List.getElem?_eq_getElem h1, hx]
    rw [List.drop_eq_getElem_cons h1, hx] at hX
    have c1 := NTakeI_some nb 16 3 f t B C X (by decide) his _ _ hX
    have hs := (hs.get [1, 0, 2, 3, 4] (by decide) rfl).takeOut (f * 4 + t) hk
    obtain ⟨a, ha⟩ : ∃ a, a = A (f * 4 + t) := ⟨_, rfl⟩
    rw [← ha] at hs hL
    clear hX hx fin hYl
    refine To.run 6 ?_
    refine To.one (One.ixaA (f) ((f) * 4) (t := 94) (b := b1) (off := 0) (n := 4) (sz := 4) (kd := IntKind.i64) (i := (↑f : Int)) (by kernel_rfl) (by kernel_rfl) (rfl) (by omega) (by omega) ?_)
    refine To.one (One.ixaA (t) (f * 4 + (t)) (t := 93) (b := b1) (off := f * 4) (n := 4) (sz := 1) (kd := IntKind.i64) (i := (↑t : Int)) (by kernel_rfl) (by kernel_rfl) (rfl) (by omega) (by omega) ?_)
    refine To.one (One.load 2 (t := 33) (off := f * 4 + t) (v := Value.slice a (Y (f * 4 + t)).length (K (f * 4 + t))) hs rfl (by kernel_rfl) hL ?_)
    refine To.run 3 ?_
    refine To.isTrue 121 (t := decide ((↑i : Int) < (↑(Y (f * 4 + t)).length : Int))) (by kernel_rfl) (by (simp; omega)) ?_
    refine To.run 9 ?_
    refine To.one (One.call 6 [3, 4] [0, 1, 2, 5] (g := 59) (args := [Value.pointer (some { block := nb, off := 0 }), Value.int IntKind.i64 (↑f : Int), Value.int IntKind.i64 (↑t : Int)]) (by kernel_rfl) hs (c1) (by decide) rfl ?_)
    rintro _ _ w1 ⟨rfl, rfl⟩ hs1
    simp only [pickAll, List.filterMap_cons, List.filterMap_nil, List.getElem?_cons_zero, List.getElem?_cons_succ, List.cons_append, List.nil_append, List.drop_succ_cons, List.drop_zero] at hs1
    clear hs
    refine To.run 14 ?_
    refine To.one (One.ixaA (f) ((f) * 4) (t := 94) (b := b1) (off := 0) (n := 4) (sz := 4) (kd := IntKind.i64) (i := (↑f : Int)) (by kernel_rfl) (by kernel_rfl) (rfl) (by omega) (by omega) ?_)
    refine To.one (One.ixaA (t) (f * 4 + (t)) (t := 93) (b := b1) (off := f * 4) (n := 4) (sz := 1) (kd := IntKind.i64) (i := (↑t : Int)) (by kernel_rfl) (by kernel_rfl) (rfl) (by omega) (by omega) ?_)
    refine To.one (One.load 4 (t := 33) (off := f * 4 + t) (v := Value.slice a (Y (f * 4 + t)).length (K (f * 4 + t))) hs1 rfl (by kernel_rfl) hL ?_)
    refine To.run 1 ?_
    obtain ⟨b2, rfl⟩ := Sat.rowAddr hs1 2 rfl (by first | omega | (simp; done) | (simp; omega))
    refine To.one (One.ixa (i) ((i)) (t := 33) (b := b2) (off := 0) (len := (Y (f * 4 + t)).length) (cap := K (f * 4 + t)) (e := 3) (sz := 1) (kd := IntKind.i64) (i := (↑i : Int)) (by kernel_rfl) (by kernel_rfl) (rfl) (by first | omega | (simp; done) | (simp; omega)) (by omega) ?_)
    refine To.one (One.loadRow 2 (i) (t := 3) (b := b2) (off := i) (u := Value.int IntKind.i64 x) hs1 rfl (by kernel_rfl) (by first | rfl | omega) (hxi) (by kernel_rfl) ?_)
    refine To.run 3 ?_
    refine To.isFalse 144 (t := x != x) (by kernel_rfl) (by simp) ?_
    refine To.run 6 ?_
    refine To.known 123 (v := .int .i64 (IntKind.i64.wrap ((↑i : Int) + 1))) (.int .i64 ((↑i : Int) + 1)) (by kernel_rfl) (by rw [wrap_i64 (by omega) (by omega)]) ?_
    refine To.run 2 ?_
    refine To.run 1 ?_
    refine To.at (fn := Try.f8) (n := 44) (l := [(3, Value.bool true), (4, Value.pointer (some { block := nb, off := 0 })), (6, Value.pointer (some { block := b1, off := 0 })), (12, Value.int IntKind.i64 (↑f : Int)), (13, Value.int IntKind.i64 (↑t : Int)), (14, Value.int IntKind.i64 ((↑i : Int) + 1))]) (by kernel_rfl) fun j => ?_
    rw [ha] at hs1
    have hs2 := Sat.putIn (g := fun i => row (A i) (K i) 3 (Y i)) (g' := fun i => row (A i) (K i) 3 (Y i)) (f * 4 + t) hk (fun _ _ => rfl) (hs1.get [2, 3, 4, 0, 1, 5] (by decide) rfl)
    exact ih (i + 1) _ _ _ (by omega) (len_put hXb _ _ (by rw [List.length_drop]; omega)) (putAt_same _ _ _) (by rw [putAt_putAt]; exact hXl) (hs2.get [1, 0, 2, 3, 4] (by decide) rfl)

theorem NL_in (W : World) (nb b1 : Nat) (B C : Nat → Nat) (A : Nat → Option Addr) (K : Nat → Nat) (Y : Nat → List Value) (hI : Ints Y) (hYl : ∀ f t : Nat, isLane 3 f t → (Y (f * 4 + t)).length ≤ 16) (hD : Diag Y) (f : Nat) (hf1 : 1 ≤ f) (hf3 : f ≤ 3)
    (fin : ∀ (X : Nat → List Value) (j : Nat → Value) (w : World), (∀ i, (X i).length ≤ 16) → Left X Y ((f + 1) * 4 + 1) → Sat W w [cel b1 94 (sliceCells A K Y), rows16 A K Y, cel nb 128 (netCells 3 B), lanes 25 103 16 B C X, old W] → To Try.prog 8 (Cfg.here Try.f8 30 j [(3, .bool true), (4, .pointer (some ⟨nb, 0, none⟩)), (6, .pointer (some ⟨b1, 0, none⟩)), (12, .int .i64 (f + 1))]) w (LawEnd W)) :
    ∀ (m t : Nat) (X : Nat → List Value) (j : Nat → Value) (w : World), 1 ≤ t → t + m = 4 → (∀ i, (X i).length ≤ 16) → Left X Y (f * 4 + t) → Sat W w [cel b1 94 (sliceCells A K Y), rows16 A K Y, cel nb 128 (netCells 3 B), lanes 25 103 16 B C X, old W] →
      To Try.prog 8 (Cfg.here Try.f8 35 j [(3, .bool true), (4, .pointer (some ⟨nb, 0, none⟩)), (6, .pointer (some ⟨b1, 0, none⟩)), (12, .int .i64 f), (13, .int .i64 t)]) w (LawEnd W) := by
  intro m
  induction m with
  | zero =>
    intro t X j w ht1 ht hXb hX hs
    obtain rfl : t = 4 := by omega
    refine To.run 12 ?_
    refine To.known 98 (v := .int .i64 (IntKind.i64.wrap ((↑f : Int) + 1))) (.int .i64 ((↑f : Int) + 1)) (by kernel_rfl) (by rw [wrap_i64 (by omega) (by omega)]) ?_
    refine To.run 2 ?_
    refine To.run 1 ?_
    refine To.at (fn := Try.f8) (n := 30) (l := [(3, Value.bool true), (4, Value.pointer (some { block := nb, off := 0 })), (6, Value.pointer (some { block := b1, off := 0 })), (12, Value.int IntKind.i64 ((↑f : Int) + 1))]) (by kernel_rfl) fun j => ?_
    exact fin X _ _ hXb (left_same hX (fun g u hgu => by obtain ⟨a1, a2, a3, a4, a5⟩ := hgu; omega)) hs
  | succ m ih =>
    intro t X j w ht1 ht hXb hX hs
    have ht3 : t ≤ 3 := by omega
    have hk : f * 4 + t < 16 := by omega
    have hL := loadS A K Y (f * 4 + t) hk
    clear fin
    by_cases hft : f = t
    · subst hft
      have hno : ¬ isLane 3 f f := by unfold isLane; omega
      have c1 := NLenI_no nb 16 3 f f B C X hno
      have c2 := NTakeI_no nb 16 3 f f B C X hno
      rw [hD f] at hL
      refine To.run 6 ?_
      refine To.isTrue 100 (t := decide ((↑f : Int) ≤ 3)) (by kernel_rfl) (by (simp; omega)) ?_
      refine To.run 6 ?_
      refine To.draw [cel b1 94 (sliceCells A K Y), cel nb 128 (netCells 3 B), old W] 11 hs (by kernel_rfl) (by kernel_rfl) (by kernel_rfl) fun w1 hs1 => ?_
      clear hs
      have hb1 := Sat.holds hs1 [0, 2, 4] rfl
      refine Reg.pures [0, 1, 2, 4, 5] (fuel' := 6) hb1 rfl (by kernel_rfl) ?_
      refine Reg.val 6 hb1 (by kernel_rfl) (by kernel_rfl) (fun w' hw' => Val.ixaA (f) ((f) * 4) (t := 94) (b := b1) (off := 0) (n := 4) (sz := 4) (kd := IntKind.i64) (i := (↑f : Int)) (by kernel_rfl) (by kernel_rfl) (rfl) (by omega) (by omega)) ?_
      refine Reg.val 7 hb1 (by kernel_rfl) (by kernel_rfl) (fun w' hw' => Val.ixaA (f) (f * 4 + (f)) (t := 93) (b := b1) (off := f * 4) (n := 4) (sz := 1) (kd := IntKind.i64) (i := (↑f : Int)) (by kernel_rfl) (by kernel_rfl) (rfl) (by omega) (by omega)) ?_
      refine Reg.load 8 0 (t := 33) (off := f * 4 + f) (v := Value.slice (A (f * 4 + f)) 0 (K (f * 4 + f))) hb1 rfl (by kernel_rfl) (by kernel_rfl) hL ?_
      refine Reg.pures [9] (fuel' := 2) hb1 rfl (by kernel_rfl) ?_
      refine Reg.step 3 (by kernel_rfl) (One.call 5 [2, 3] [0, 1, 4] (g := 58) (args := [Value.pointer (some { block := nb, off := 0 }), Value.int IntKind.i64 (↑f : Int), Value.int IntKind.i64 (↑f : Int)]) (by kernel_rfl) hs1 (c1) (by decide) rfl ?_)
      rintro _ _ w2 ⟨rfl, rfl⟩ hs2
      simp only [pickAll, List.filterMap_cons, List.filterMap_nil, List.getElem?_cons_zero, List.getElem?_cons_succ, List.cons_append, List.nil_append, List.drop_succ_cons, List.drop_zero] at hs2
      clear hs1
      have hb2 := Sat.holds hs2 [2, 0, 4] (B := [cel b1 94 (sliceCells A K Y), cel nb 128 (netCells 3 B), old W]) rfl
      clear hb1
      refine ⟨hb2, ?_⟩
      refine Reg.pures [10] (fuel' := 0) hb2 rfl (by kernel_rfl) ?_
      refine Reg.done (by kernel_rfl) ?_
      clear hb2
      refine To.run 8 ?_
      refine To.run 1 ?_
      refine To.run 6 ?_
      refine To.one (One.ixaA (f) ((f) * 4) (t := 94) (b := b1) (off := 0) (n := 4) (sz := 4) (kd := IntKind.i64) (i := (↑f : Int)) (by kernel_rfl) (by kernel_rfl) (rfl) (by omega) (by omega) ?_)
      refine To.one (One.ixaA (f) (f * 4 + (f)) (t := 93) (b := b1) (off := f * 4) (n := 4) (sz := 1) (kd := IntKind.i64) (i := (↑f : Int)) (by kernel_rfl) (by kernel_rfl) (rfl) (by omega) (by omega) ?_)
      refine To.one (One.load 2 (t := 33) (off := f * 4 + f) (v := Value.slice (A (f * 4 + f)) 0 (K (f * 4 + f))) hs2 rfl (by kernel_rfl) hL ?_)
      refine To.run 10 ?_
      refine To.one (One.call 5 [0, 1] [2, 3, 4] (g := 59) (args := [Value.pointer (some { block := nb, off := 0 }), Value.int IntKind.i64 (↑f : Int), Value.int IntKind.i64 (↑f : Int)]) (by kernel_rfl) hs2 (c2) (by decide) rfl ?_)
      rintro _ _ w3 ⟨rfl, rfl⟩ hs1
      simp only [pickAll, List.filterMap_cons, List.filterMap_nil, List.getElem?_cons_zero, List.getElem?_cons_succ, List.cons_append, List.nil_append, List.drop_succ_cons, List.drop_zero] at hs1
      clear hs2
      refine To.run 18 ?_
      refine To.run 1 ?_
      refine To.known 13 (v := .int .i64 (IntKind.i64.wrap ((↑f : Int) + 1))) (.int .i64 ((↑f : Int) + 1)) (by kernel_rfl) (by rw [wrap_i64 (by omega) (by omega)]) ?_
      refine To.at (fn := Try.f8) (n := 35) (l := [(3, Value.bool true), (4, Value.pointer (some { block := nb, off := 0 })), (6, Value.pointer (some { block := b1, off := 0 })), (12, Value.int IntKind.i64 (↑f : Int)), (13, Value.int IntKind.i64 ((↑f : Int) + 1))]) (by kernel_rfl) fun j => ?_
      exact ih (f + 1) X _ _ (by omega) (by omega) hXb (left_same hX (fun g u hgu => by obtain ⟨a1, a2, a3, a4, a5⟩ := hgu; omega)) (hs1.get [2, 3, 0, 1, 4] (by decide) rfl)
    · have his : isLane 3 f t := by unfold isLane; omega
      have e := hX f t his
      rw [if_neg (by omega)] at e
      have c1 := NLenI_is nb 16 3 f t B C X (by decide) his
      rw [e] at c1
      refine To.run 6 ?_
      refine To.isTrue 100 (t := decide ((↑t : Int) ≤ 3)) (by kernel_rfl) (by (simp; omega)) ?_
      refine To.run 6 ?_
      refine To.draw [cel b1 94 (sliceCells A K Y), cel nb 128 (netCells 3 B), old W] 11 hs (by kernel_rfl) (by kernel_rfl) (by kernel_rfl) fun w1 hs1 => ?_
      clear hs
      have hb1 := Sat.holds hs1 [0, 2, 4] rfl
      refine Reg.pures [0, 1, 2, 4, 5] (fuel' := 6) hb1 rfl (by kernel_rfl) ?_
      refine Reg.val 6 hb1 (by kernel_rfl) (by kernel_rfl) (fun w' hw' => Val.ixaA (f) ((f) * 4) (t := 94) (b := b1) (off := 0) (n := 4) (sz := 4) (kd := IntKind.i64) (i := (↑f : Int)) (by kernel_rfl) (by kernel_rfl) (rfl) (by omega) (by omega)) ?_
      refine Reg.val 7 hb1 (by kernel_rfl) (by kernel_rfl) (fun w' hw' => Val.ixaA (t) (f * 4 + (t)) (t := 93) (b := b1) (off := f * 4) (n := 4) (sz := 1) (kd := IntKind.i64) (i := (↑t : Int)) (by kernel_rfl) (by kernel_rfl) (rfl) (by omega) (by omega)) ?_
      refine Reg.load 8 0 (t := 33) (off := f * 4 + t) (v := Value.slice (A (f * 4 + t)) (Y (f * 4 + t)).length (K (f * 4 + t))) hb1 rfl (by kernel_rfl) (by kernel_rfl) hL ?_
      refine Reg.pures [9] (fuel' := 2) hb1 rfl (by kernel_rfl) ?_
      refine Reg.step 3 (by kernel_rfl) (One.call 5 [2, 3] [0, 1, 4] (g := 58) (args := [Value.pointer (some { block := nb, off := 0 }), Value.int IntKind.i64 (↑f : Int), Value.int IntKind.i64 (↑t : Int)]) (by kernel_rfl) hs1 (c1) (by decide) rfl ?_)
      rintro _ _ w2 ⟨rfl, rfl⟩ hs2
      simp only [pickAll, List.filterMap_cons, List.filterMap_nil, List.getElem?_cons_zero, List.getElem?_cons_succ, List.cons_append, List.nil_append, List.drop_succ_cons, List.drop_zero] at hs2
      clear hs1
      have hb2 := Sat.holds hs2 [2, 0, 4] (B := [cel b1 94 (sliceCells A K Y), cel nb 128 (netCells 3 B), old W]) rfl
      clear hb1
      refine ⟨hb2, ?_⟩
      refine Reg.pures [10] (fuel' := 0) hb2 rfl (by kernel_rfl) ?_
      refine Reg.done (by kernel_rfl) ?_
      clear hb2
      refine To.isFalse 113 (t := (↑(Y (f * 4 + t)).length : Int) != (↑(Y (f * 4 + t)).length : Int)) (by kernel_rfl) (by simp) ?_
      refine To.run 8 ?_
      refine To.run 1 ?_
      refine To.at (fn := Try.f8) (n := 44) (l := [(3, Value.bool true), (4, Value.pointer (some { block := nb, off := 0 })), (6, Value.pointer (some { block := b1, off := 0 })), (12, Value.int IntKind.i64 (↑f : Int)), (13, Value.int IntKind.i64 (↑t : Int)), (14, Value.int IntKind.i64 0)]) (by kernel_rfl) fun j => ?_
      refine NL_take W nb b1 B C A K Y hI hYl f t hf1 hf3 ht1 ht3 hft (fun X j w h1 h3 h2 => ih (t + 1) X j w (by omega) (by omega) h1 h3 h2) _ 0 X _ _ (Nat.zero_add _) hXb (by rw [List.drop_zero, e]) ?_ (hs2.get [2, 3, 0, 1, 4] (by decide) rfl)
      rw [show putAt X (ln f t) (Y (f * 4 + t)) = X from by funext q; unfold putAt; split <;> simp_all]
      exact hX

theorem sum_none (X : Nat → List Value) (h : ∀ f t : Nat, isLane 3 f t → X (ln f t) = []) : ∀ n, sumTo 3 X n = 0
  | 0 => rfl
  | n + 1 => by
    rw [sumTo, sum_none X h n]
    unfold lenAt
    split
    · rename_i hl
      rw [h _ _ hl]; rfl
    · rfl

theorem NL_out (W : World) (nb b1 : Nat) (B C : Nat → Nat) (A : Nat → Option Addr) (K : Nat → Nat) (Y : Nat → List Value) (hI : Ints Y) (hYl : ∀ f t : Nat, isLane 3 f t → (Y (f * 4 + t)).length ≤ 16) (hD : Diag Y) :
    ∀ (m f : Nat) (X : Nat → List Value) (j : Nat → Value) (w : World), 1 ≤ f → f + m = 4 → (∀ i, (X i).length ≤ 16) → Left X Y (f * 4 + 1) → Sat W w [cel b1 94 (sliceCells A K Y), rows16 A K Y, cel nb 128 (netCells 3 B), lanes 25 103 16 B C X, old W] →
      To Try.prog 8 (Cfg.here Try.f8 30 j [(3, .bool true), (4, .pointer (some ⟨nb, 0, none⟩)), (6, .pointer (some ⟨b1, 0, none⟩)), (12, .int .i64 f)]) w (LawEnd W) := by
  intro m
  induction m with
  | zero =>
    intro f X j w hf1 hf hXl hX hs
    obtain rfl : f = 4 := by omega
    have hz := sum_none X (fun g u hgu => by
      rw [hX g u hgu]
      obtain ⟨a1, a2, a3, a4, a5⟩ := hgu
      rw [if_pos (by omega)])
    have c1 := NAllI nb 16 3 B C X (by decide) (fun i => Nat.le_trans (hXl i) (by decide))
    rw [hz 25] at c1
    refine To.run 13 ?_
    refine To.one (One.call 5 [2, 3] [0, 1, 4] (g := 57) (args := [Value.pointer (some { block := nb, off := 0 })]) (by kernel_rfl) hs (c1) (by decide) rfl ?_)
    rintro _ _ w1 ⟨rfl, rfl⟩ hs1
    simp only [pickAll, List.filterMap_cons, List.filterMap_nil, List.getElem?_cons_zero, List.getElem?_cons_succ, List.cons_append, List.nil_append, List.drop_succ_cons, List.drop_zero] at hs1
    clear hs
    refine To.run 4 ?_
    refine To.retv Try.func8 (by kernel_rfl) (v := Value.bool true) (by kernel_rfl) ?_
    exact hs1.lawEnd 4 rfl
  | succ m ih =>
    intro f X j w hf1 hf hXl hX hs
    have hf3 : f ≤ 3 := by omega
    refine To.run 6 ?_
    refine To.isTrue 96 (t := decide ((↑f : Int) ≤ 3)) (by kernel_rfl) (by (simp; omega)) ?_
    refine To.run 9 ?_
    refine To.run 1 ?_
    refine To.at (fn := Try.f8) (n := 35) (l := [(3, Value.bool true), (4, Value.pointer (some { block := nb, off := 0 })), (6, Value.pointer (some { block := b1, off := 0 })), (12, Value.int IntKind.i64 (↑f : Int)), (13, Value.int IntKind.i64 1)]) (by kernel_rfl) fun j => ?_
    exact NL_in W nb b1 B C A K Y hI hYl hD f hf1 hf3 (fun X j w h1 h3 h2 => ih (f + 1) X j w (by omega) (by omega) h1 h3 h2) 3 1 X _ _ (by omega) (by omega) hXl hX hs

theorem NL_end (W : World) (nb b1 : Nat) (B C : Nat → Nat) (A : Nat → Option Addr) (K : Nat → Nat) (X Y : Nat → List Value) (hI : Ints Y) (hYl : ∀ f t : Nat, isLane 3 f t → (Y (f * 4 + t)).length ≤ 16) (al : Option Addr) (cap : Nat) (xs : List Int) (n : Nat) (hn : n = min xs.length 40) (hXY : Twin X Y) (hD : Diag Y) (hX16 : ∀ i, (X i).length ≤ 16) (j : Nat → Value) (w : World)
    (hs : Sat W w [cel b1 94 (sliceCells A K Y), rows16 A K Y, cel nb 128 (netCells 3 B), lanes 25 103 16 B C X, old W]) :
      To Try.prog 8 (Cfg.here Try.f8 13 j [(0, .slice al xs.length cap), (3, .bool true), (4, .pointer (some ⟨nb, 0, none⟩)), (6, .pointer (some ⟨b1, 0, none⟩)), (7, .int .i64 (sumTo 3 X 25 : Nat)), (8, .int .i64 n)]) w (LawEnd W) := by
  have hX1 : ∀ i, (X i).length ≤ 1000 := fun i => by have := hX16 i; omega
  have c1 := NAllI nb 16 3 B C X (by decide) hX1
  have hX : Left X Y 5 := by
    intro f t h
    rw [hXY f t h]
    obtain ⟨a1, a2, a3, a4, a5⟩ := h
    rw [if_neg (by omega)]
  by_cases h : xs.length < 40
  · obtain rfl : n = xs.length := by omega
    clear hn
    refine To.run 8 ?_
    refine To.isFalse 36 (t := decide ((↑xs.length : Int) < (↑xs.length : Int))) (by kernel_rfl) (by simp) ?_
    refine To.run 10 ?_
    refine To.one (One.call 5 [2, 3] [0, 1, 4] (g := 57) (args := [Value.pointer (some { block := nb, off := 0 })]) (by kernel_rfl) hs (c1) (by decide) rfl ?_)
    rintro _ _ w1 ⟨rfl, rfl⟩ hs1
    simp only [pickAll, List.filterMap_cons, List.filterMap_nil, List.getElem?_cons_zero, List.getElem?_cons_succ, List.cons_append, List.nil_append, List.drop_succ_cons, List.drop_zero] at hs1
    clear hs
    refine To.run 3 ?_
    refine To.isFalse 94 (t := (↑(sumTo 3 X 25) : Int) != (↑(sumTo 3 X 25) : Int)) (by kernel_rfl) (by simp) ?_
    refine To.run 8 ?_
    refine To.run 1 ?_
    refine To.at (fn := Try.f8) (n := 30) (l := [(3, Value.bool true), (4, Value.pointer (some { block := nb, off := 0 })), (6, Value.pointer (some { block := b1, off := 0 })), (12, Value.int IntKind.i64 1)]) (by kernel_rfl) fun j => ?_
    exact NL_out W nb b1 B C A K Y hI hYl hD 3 1 X _ _ (by omega) (by omega) hX16 hX (hs1.get [2, 3, 0, 1, 4] (by decide) rfl)
  · obtain rfl : n = 40 := by omega
    by_cases h40 : (40 : Int) < xs.length
    · clear hn
      refine To.run 8 ?_
      refine To.isTrue 36 (t := decide (40 < (↑xs.length : Int))) (by kernel_rfl) (by (simp; omega)) ?_
      refine To.run 10 ?_
      refine To.one (One.call 5 [2, 3] [0, 1, 4] (g := 57) (args := [Value.pointer (some { block := nb, off := 0 })]) (by kernel_rfl) hs (c1) (by decide) rfl ?_)
      rintro _ _ w1 ⟨rfl, rfl⟩ hs1
      simp only [pickAll, List.filterMap_cons, List.filterMap_nil, List.getElem?_cons_zero, List.getElem?_cons_succ, List.cons_append, List.nil_append, List.drop_succ_cons, List.drop_zero] at hs1
      clear hs
      refine To.run 3 ?_
      refine To.isFalse 94 (t := (↑(sumTo 3 X 25) : Int) != (↑(sumTo 3 X 25) : Int)) (by kernel_rfl) (by simp) ?_
      refine To.run 8 ?_
      refine To.run 1 ?_
      refine To.at (fn := Try.f8) (n := 30) (l := [(3, Value.bool true), (4, Value.pointer (some { block := nb, off := 0 })), (6, Value.pointer (some { block := b1, off := 0 })), (12, Value.int IntKind.i64 1)]) (by kernel_rfl) fun j => ?_
      exact NL_out W nb b1 B C A K Y hI hYl hD 3 1 X _ _ (by omega) (by omega) hX16 hX (hs1.get [2, 3, 0, 1, 4] (by decide) rfl)
    · clear hn
      refine To.run 8 ?_
      refine To.isFalse 36 (t := decide (40 < (↑xs.length : Int))) (by kernel_rfl) (by (simp; omega)) ?_
      refine To.run 10 ?_
      refine To.one (One.call 5 [2, 3] [0, 1, 4] (g := 57) (args := [Value.pointer (some { block := nb, off := 0 })]) (by kernel_rfl) hs (c1) (by decide) rfl ?_)
      rintro _ _ w1 ⟨rfl, rfl⟩ hs1
      simp only [pickAll, List.filterMap_cons, List.filterMap_nil, List.getElem?_cons_zero, List.getElem?_cons_succ, List.cons_append, List.nil_append, List.drop_succ_cons, List.drop_zero] at hs1
      clear hs
      refine To.run 3 ?_
      refine To.isFalse 94 (t := (↑(sumTo 3 X 25) : Int) != (↑(sumTo 3 X 25) : Int)) (by kernel_rfl) (by simp) ?_
      refine To.run 8 ?_
      refine To.run 1 ?_
      refine To.at (fn := Try.f8) (n := 30) (l := [(3, Value.bool true), (4, Value.pointer (some { block := nb, off := 0 })), (6, Value.pointer (some { block := b1, off := 0 })), (12, Value.int IntKind.i64 1)]) (by kernel_rfl) fun j => ?_
      exact NL_out W nb b1 B C A K Y hI hYl hD 3 1 X _ _ (by omega) (by omega) hX16 hX (hs1.get [2, 3, 0, 1, 4] (by decide) rfl)

theorem Sat.manyNil {E w : World} {L : List Res} (n : Nat) (g : Nat → Res) (hok : ∀ i, (g i).ok w) (hf : ∀ i b, ¬ (g i).fp b) (h : Sat E w L) : Sat E w (many n g :: L) := by
  have := h.insertAt 0 (many n g) ⟨?_, ?_⟩ ?_
  · simpa using this
  · exact List.pairwise_map.2 (List.Pairwise.imp (fun _ b hb => absurd hb (hf _ b)) (List.pairwise_lt_range (n := n)))
  · intro r hr
    obtain ⟨i, _, rfl⟩ := List.mem_map.1 hr
    exact hok i
  · rintro b ⟨r, hr, hb⟩
    obtain ⟨i, _, rfl⟩ := List.mem_map.1 hr
    exact hf i b hb

theorem NL_law (W : World) (al : Option Addr) (len cap : Nat) (hxs : ∃ xs : List Int, xs.length = len ∧ Bytes W al xs) :
    Calls Try.prog 8 #[.slice al len cap] W (LawEnd W) := by
  refine Sx.start (args := [_]) Try.func8 (by kernel_rfl) ?_
  have hs := Sat.start W
  obtain ⟨xs, rfl, hx⟩ := hxs
  refine To.run 6 ?_
  refine To.one (One.call 1 [] [0] (g := 39) (args := []) (by kernel_rfl) hs (examples17_ok) (by decide) rfl ?_)
  rintro _ _ w1 ⟨rfl, rfl⟩ hs1
  simp only [pickAll, List.filterMap_cons, List.filterMap_nil, List.getElem?_cons_zero, List.getElem?_cons_succ, List.cons_append, List.nil_append, List.drop_succ_cons, List.drop_zero] at hs1
  clear hs
  refine To.run 12 ?_
  refine To.one (One.call 1 [] [0] (g := 55) (args := [Value.int IntKind.i64 3, Value.int IntKind.i64 16]) (by kernel_rfl) hs1 (NNewI_ok (3) (16) (by omega) (by omega) (by omega) (by omega)) (by decide) rfl ?_)
  rintro _ _ w2 ⟨nb, B, C, rfl, rfl⟩ hs2
  simp only [pickAll, List.filterMap_cons, List.filterMap_nil, List.getElem?_cons_zero, List.getElem?_cons_succ, List.cons_append, List.nil_append, List.drop_succ_cons, List.drop_zero] at hs2
  clear hs1
  refine To.run 20 ?_
  refine To.one (One.alloc (t := 94) [Value.slice none 0 0, Value.slice none 0 0, Value.slice none 0 0, Value.slice none 0 0, Value.slice none 0 0, Value.slice none 0 0, Value.slice none 0 0, Value.slice none 0 0, Value.slice none 0 0, Value.slice none 0 0, Value.slice none 0 0, Value.slice none 0 0, Value.slice none 0 0, Value.slice none 0 0, Value.slice none 0 0, Value.slice none 0 0] hs2 (by kernel_rfl) (by kernel_rfl) fun b1 w3 hs1 => ?_)
  clear hs2
  refine To.run 11 ?_
  have hs2 : Sat W w3 (rows16 (fun _ => none) (fun _ => 0) (fun _ => []) :: _) := Sat.manyNil 16 (fun i => row none 0 3 []) (fun _ => World.ownsRow_nil w3 0 3 1) (fun i b hb => by simp [row, own, Value.ownBlock] at hb) hs1
  clear hs1
  refine To.run 1 ?_
  refine To.at (fn := Try.f8) (n := 13) (l := [(0, Value.slice al xs.length cap), (3, Value.bool true), (4, Value.pointer (some { block := nb, off := 0 })), (6, Value.pointer (some { block := b1, off := 0 })), (7, Value.int IntKind.i64 0), (8, Value.int IntKind.i64 0)]) (by kernel_rfl) fun j => ?_
  have e1 : [Value.slice none 0 0, Value.slice none 0 0, Value.slice none 0 0, Value.slice none 0 0, Value.slice none 0 0, Value.slice none 0 0, Value.slice none 0 0, Value.slice none 0 0, Value.slice none 0 0, Value.slice none 0 0, Value.slice none 0 0, Value.slice none 0 0, Value.slice none 0 0, Value.slice none 0 0, Value.slice none 0 0, Value.slice none 0 0] = sliceCells (fun _ => none) (fun _ => 0) (fun _ => []) := by kernel_rfl
  rw [e1, show Int.toNat 16 = 16 from rfl] at hs2
  have hs3 : Sat W w3 [cel b1 94 (sliceCells (fun _ => none) (fun _ => 0) (fun _ => [])), rows16 (fun _ => none) (fun _ => 0) (fun _ => []), cel nb 128 (netCells 3 B), lanes 25 103 16 B C (fun _ => []), old W] := hs2.get [1, 0, 2, 3, 4] (by decide) rfl
  have h := NL_first W nb B C al cap xs hx (min xs.length 40) rfl b1 (fun A K X Y j w hs hXY hD hI hX16 => NL_end W nb b1 B C A K X Y hI (fun f t h => by rw [← hXY f t h]; exact hX16 _) al cap xs _ rfl hXY hD hX16 j w hs) (min xs.length 40) 0 (fun _ => none) (fun _ => 0) (fun _ => []) (fun _ => []) j w3 (Nat.zero_add _) hs3 (fun _ _ _ => rfl) (fun _ => rfl) (fun _ _ h => by cases h) (fun _ => by simp)
  rw [sum_none (fun _ => []) (fun _ _ _ => rfl) 25] at h
  exact h
end Go.Proofs.Ythojpcfaaiefhaa
