import Derived.Test.YthojpcfaaiefhaaProg
import Derived.Test.YthojpcfaaiefhaaSxLaw
import Derived.Test.YthojpcfaaiefhaaNturns
set_option linter.unusedSimpArgs false
set_option linter.unusedVariables false
namespace Go.Proofs.Ythojpcfaaiefhaa
open Go Go.Sx
set_option linter.unusedSimpArgs false
set_option maxHeartbeats 0

/-- Sixteen slices in a block. -/
def sliceCells (A : Nat → Option Addr) (K : Nat → Nat) (Y : Nat → List Value) : List Value := (List.range 16).map fun i => .slice (A i) (Y i).length (K i)
def rows16 (A : Nat → Option Addr) (K : Nat → Nat) (Y : Nat → List Value) : Res := many 16 fun i => row (A i) (K i) 3 (Y i)

theorem sliceCells_at (A : Nat → Option Addr) (K : Nat → Nat) (Y : Nat → List Value) (i : Nat) (hi : i < 16) : (sliceCells A K Y)[i]? = some (.slice (A i) (Y i).length (K i)) := by
  simp [sliceCells, hi]

/-- The bytes that are told. -/
def Bytes (W : World) (al : Option Addr) (xs : List Int) : Prop :=
  ∀ i x, xs[i]? = some x → 0 ≤ x ∧ x ≤ 255 ∧ ∃ b off, al = some ⟨b, off, none⟩ ∧ W.cell? ⟨b, off + i, none⟩ = some (.int .u8 x)

theorem div3 (x : Int) (h0 : 0 ≤ x) (h1 : x ≤ 255) : ∃ f : Nat, x.tmod 3 = f ∧ f < 3 := by
  refine ⟨(x % 3).toNat, ?_, by omega⟩
  rw [Int.tmod_eq_emod_of_nonneg h0]; omega

theorem cell_at {E w : World} {L : List Res} (hs : Sat E w L) (i : Nat) {b e : Nat} {vs : List Value} (hi : L[i]? = some (cel b e vs)) {j : Nat} {u : Value} (hj : vs[j]? = some u) : w.cell? ⟨b, j, none⟩ = some u := by
  have := cell_row hs i hi hj
  rwa [Nat.zero_add] at this

theorem loadS (A : Nat → Option Addr) (K : Nat → Nat) (Y : Nat → List Value) (k : Nat) (hk : k < 16) : loadV Try.prog 33 (sliceCells A K Y) k = some (.slice (A k) (Y k).length (K k)) := by
  have h : ∀ vs : List Value, loadV Try.prog 33 vs k = vs[k]? := fun vs => by kernel_rfl
  rw [h]; exact sliceCells_at A K Y k hk
theorem storeS (A : Nat → Option Addr) (K : Nat → Nat) (Y : Nat → List Value) (k : Nat) (hk : k < 16) (a : Option Addr) (n c : Nat) : storeV Try.prog 33 (.slice a n c) (sliceCells A K Y) k = some ((sliceCells A K Y).set k (.slice a n c)) := by
  have h : ∀ vs : List Value, storeV Try.prog 33 (.slice a n c) vs k = if k + 1 ≤ vs.length then some (vs.take k ++ [.slice a n c] ++ vs.drop (k + 1)) else none := fun vs => by kernel_rfl
  have hl : (sliceCells A K Y).length = 16 := by simp [sliceCells]
  rw [h, if_pos (by omega), List.set_eq_take_append_cons_drop, if_pos (by omega)]
  simp

/-- The lanes and what was sent are alike. -/
def Twin (X Y : Nat → List Value) : Prop := ∀ f t : Nat, isLane 3 f t → X (ln f t) = Y (f * 4 + t)
def Diag (Y : Nat → List Value) : Prop := ∀ f : Nat, Y (f * 4 + f) = []

theorem sliceCells_set (A : Nat → Option Addr) (K : Nat → Nat) (Y : Nat → List Value) (k : Nat) (hk : k < 16) (a : Option Addr) (c : Nat) (ys : List Value) :
    (sliceCells A K Y).set k (.slice a ys.length c) = sliceCells (putAt A k a) (putAt K k c) (putAt Y k ys) := by
  unfold sliceCells
  apply List.ext_getElem?
  intro i
  rw [List.getElem?_set]
  by_cases hi : i < 16
  · by_cases hki : k = i
    · subst hki
      simp [hi]
    · simp [hki, hi, putAt, Ne.symm hki]
  · have h1 : ¬ k = i := by omega
    simp [hi, h1]

theorem Sat.rowsIn {E w : World} {L : List Res} {A : Nat → Option Addr} {K : Nat → Nat} {Y : Nat → List Value} {a : Option Addr} {c : Nat} {ys : List Value} (k : Nat) (hk : k < 16)
    (h : Sat E w (row a c 3 ys :: hole 16 (fun i => row (A i) (K i) 3 (Y i)) k :: L)) : Sat E w (rows16 (putAt A k a) (putAt K k c) (putAt Y k ys) :: L) := by
  refine Sat.putIn (g := fun i => row (A i) (K i) 3 (Y i)) k hk (fun j hj => ?_) ?_
  · simp [putAt, hj]
  · simp only [putAt_same]
    exact h

theorem ln_inj {f t g u : Nat} (ht : t < 5) (hu : u < 5) (h : ln f t = ln g u) : f = g ∧ t = u := by
  unfold ln at h
  omega

theorem twin_put {X Y : Nat → List Value} (h : Twin X Y) {f t : Nat} (hf1 : 1 ≤ f) (hf3 : f ≤ 3) (ht1 : 1 ≤ t) (ht3 : t ≤ 3) (hft : ¬ f = t) (ys : List Value) : Twin (putAt X (ln f t) ys) (putAt Y (f * 4 + t) ys) := by
  intro g u hgu
  have h0 := h g u hgu
  obtain ⟨a1, a2, a3, a4, a5⟩ := hgu
  unfold putAt
  by_cases hc : ln g u = ln f t
  · obtain ⟨rfl, rfl⟩ := ln_inj (by omega) (by omega) hc
    simp
  · have : ¬ g * 4 + u = f * 4 + t := by
      intro e
      apply hc
      have e1 : g = f := by omega
      have e2 : u = t := by omega
      rw [e1, e2]
    rw [if_neg hc, if_neg this]
    exact h0

theorem diag_put {Y : Nat → List Value} (h : Diag Y) {f t : Nat} (hf1 : 1 ≤ f) (hf3 : f ≤ 3) (ht1 : 1 ≤ t) (ht3 : t ≤ 3) (hft : ¬ f = t) (ys : List Value) : Diag (putAt Y (f * 4 + t) ys) := by
  intro g
  unfold putAt
  rw [if_neg (by omega)]
  exact h g

theorem len_put {X : Nat → List Value} (h : ∀ i, (X i).length ≤ 16) (k : Nat) (ys : List Value) (hy : ys.length ≤ 16) : ∀ i, (putAt X k ys i).length ≤ 16 := by
  intro i
  unfold putAt
  split
  · exact hy
  · exact h i

theorem sum_put_at (dcs : Int) (X : Nat → List Value) (f t : Nat) (h : isLane dcs f t) (h5 : t < 5) (ys : List Value) : ∀ n, sumTo dcs (putAt X (ln f t) ys) n + (if f * 5 + t < n then (X (ln f t)).length else 0) = sumTo dcs X n + (if f * 5 + t < n then ys.length else 0) := by
  intro n
  induction n with
  | zero => simp [sumTo]
  | succ n ih =>
    rw [sumTo, sumTo]
    have hl : ln f t = f * 5 + t := by unfold ln; omega
    have hn : ln (n / 5 : Nat) (n % 5 : Nat) = n := by unfold ln; omega
    by_cases e : n = f * 5 + t
    · have e1 : n / 5 = f := by omega
      have e2 : n % 5 = t := by omega
      unfold lenAt
      rw [e1, e2, if_pos h, if_pos h, putAt_same]
      rw [if_neg (by omega), if_neg (by omega)] at ih
      rw [if_pos (by omega), if_pos (by omega)]
      omega
    · have e3 : lenAt dcs (putAt X (ln f t) ys) (n / 5 : Nat) (n % 5 : Nat) = lenAt dcs X (n / 5 : Nat) (n % 5 : Nat) := by
        unfold lenAt
        rw [hn, hl, putAt_ne X _ n ys e]
      rw [e3]
      by_cases e4 : f * 5 + t < n
      · rw [if_pos e4, if_pos e4] at ih
        rw [if_pos (by omega), if_pos (by omega)]
        omega
      · rw [if_neg e4, if_neg e4] at ih
        rw [if_neg (by omega), if_neg (by omega)]
        omega

theorem sum_put (dcs : Int) (X : Nat → List Value) (f t : Nat) (h : isLane dcs f t) (ys : List Value) (h4 : dcs ≤ 4 := by decide) : sumTo dcs (putAt X (ln f t) ys) 25 + (X (ln f t)).length = sumTo dcs X 25 + ys.length := by
  have h' := h
  obtain ⟨a1, a2, a3, a4, a5⟩ := h'
  have := sum_put_at dcs X f t h (by omega) ys 25
  rw [if_pos (by omega), if_pos (by omega)] at this
  exact this

def Ints (Y : Nat → List Value) : Prop := ∀ i v, v ∈ Y i → ∃ x : Int, v = .int .i64 x
theorem ints_put {Y : Nat → List Value} (h : Ints Y) (k : Nat) (x : Int) : Ints (putAt Y k (Y k ++ [.int .i64 x])) := by
  intro i v hv
  unfold putAt at hv
  split at hv
  · rcases List.mem_append.1 hv with hv | hv
    · exact h _ v hv
    · exact ⟨x, List.mem_singleton.1 hv⟩
  · exact h _ v hv

theorem near3 (y : Int) (h0 : 0 ≤ y) (h1 : y ≤ 255) : ∃ f : Nat, IntKind.i64.wrap (1 + IntKind.i64.wrap (y.tmod 3)) = (f : Int) ∧ 1 ≤ f ∧ f ≤ 3 := by
  rw [Int.tmod_eq_emod_of_nonneg h0]
  have h2 : 0 ≤ y % 3 ∧ y % 3 < 3 := by omega
  rw [wrap_i64 (e := y % 3) (by omega) (by omega), wrap_i64 (by omega) (by omega)]
  exact ⟨(1 + y % 3).toNat, by omega, by omega, by omega⟩
theorem near9 (y : Int) (h0 : 0 ≤ y) (h1 : y ≤ 255) : ∃ f : Nat, IntKind.i64.wrap (1 + IntKind.i64.wrap ((IntKind.u8.wrap (y.tdiv 3)).tmod 3)) = (f : Int) ∧ 1 ≤ f ∧ f ≤ 3 := by
  have h2 : y.tdiv 3 = y / 3 := Int.tdiv_eq_ediv_of_nonneg h0
  rw [h2, wrap_u8 (by omega) (by omega)]
  exact near3 (y / 3) (by omega) (by omega)

theorem NL_first (W : World) (nb : Nat) (B C : Nat → Nat) (al : Option Addr) (cap : Nat) (xs : List Int) (hx : Bytes W al xs) (n : Nat) (hn : n = min xs.length 40) (b1 : Nat)
    (fin : ∀ (A : Nat → Option Addr) (K : Nat → Nat) (X Y : Nat → List Value) (j : Nat → Value) (w : World), Sat W w [cel b1 94 (sliceCells A K Y), rows16 A K Y, cel nb 128 (netCells 3 B), lanes 25 103 16 B C X, old W] → Twin X Y → Diag Y → Ints Y → (∀ i, (X i).length ≤ 16) →
      To Try.prog 8 (Cfg.here Try.f8 13 j [(0, .slice al xs.length cap), (3, .bool true), (4, .pointer (some ⟨nb, 0, none⟩)), (6, .pointer (some ⟨b1, 0, none⟩)), (7, .int .i64 (sumTo 3 X 25 : Nat)), (8, .int .i64 n)]) w (LawEnd W)) :
    ∀ (m i : Nat) (A : Nat → Option Addr) (K : Nat → Nat) (X Y : Nat → List Value) (j : Nat → Value) (w : World), i + m = n → Sat W w [cel b1 94 (sliceCells A K Y), rows16 A K Y, cel nb 128 (netCells 3 B), lanes 25 103 16 B C X, old W] → Twin X Y → Diag Y → Ints Y → (∀ i, (X i).length ≤ 16) →
      To Try.prog 8 (Cfg.here Try.f8 13 j [(0, .slice al xs.length cap), (3, .bool true), (4, .pointer (some ⟨nb, 0, none⟩)), (6, .pointer (some ⟨b1, 0, none⟩)), (7, .int .i64 (sumTo 3 X 25 : Nat)), (8, .int .i64 i)]) w (LawEnd W) := by
  intro m
  induction m with
  | zero =>
    intro i A K X Y j w hi hs hXY hD hI hX16
    obtain rfl : i = n := by omega
    exact fin A K X Y j w hs hXY hD hI hX16
  | succ m ih =>
    intro i A K X Y j w hi hs hXY hD hI hX16
    have h1 : i < xs.length := by omega
    have h40 : i < 40 := by omega
    clear hn fin
    obtain ⟨q0, q1, b, off, rfl, hc⟩ := hx i _ (List.getElem?_eq_getElem h1)
    obtain ⟨y, hy⟩ : ∃ y, xs[i] = y := ⟨_, rfl⟩
    simp only [hy] at hc q0 q1
    obtain ⟨f, hf0, hf1, hf3⟩ := near3 y q0 q1
    obtain ⟨t, ht0, ht1, ht3⟩ := near9 y q0 q1
    have hf : Value.int .i64 _ = _ := congrArg (Value.int .i64) hf0
    have ht : Value.int .i64 _ = _ := congrArg (Value.int .i64) ht0
    clear hf0 ht0
    refine To.run 8 ?_
    refine To.isTrue 36 (t := decide ((↑i : Int) < (↑xs.length : Int))) (by kernel_rfl) (by (simp; omega)) ?_
    refine To.run 4 ?_
    refine To.isTrue 39 (t := decide ((↑i : Int) < 40)) (by kernel_rfl) (by (simp; omega)) ?_
    refine To.run 8 ?_
    refine To.one (One.ixa (i) (off + (i)) (t := 89) (b := b) (off := off) (len := xs.length) (cap := cap) (e := 5) (sz := 1) (kd := IntKind.i64) (i := (↑i : Int)) (by kernel_rfl) (by kernel_rfl) (rfl) (by first | omega | (simp; done) | (simp; omega)) (by omega) ?_)
    refine To.one (One.loadc (t := 5) (a := ⟨b, off + i, none⟩) (v := Value.int IntKind.u8 y) (Sat.oldCell hs 4 rfl hc) (by kernel_rfl) (by kernel_rfl) ?_)
    refine To.run 2 ?_
    refine To.run 1 ?_
    refine To.run 6 ?_
    refine To.one (One.ixa (i) (off + (i)) (t := 89) (b := b) (off := off) (len := xs.length) (cap := cap) (e := 5) (sz := 1) (kd := IntKind.i64) (i := (↑i : Int)) (by kernel_rfl) (by kernel_rfl) (rfl) (by first | omega | (simp; done) | (simp; omega)) (by omega) ?_)
    refine To.one (One.loadc (t := 5) (a := ⟨b, off + i, none⟩) (v := Value.int IntKind.u8 y) (Sat.oldCell hs 4 rfl hc) (by kernel_rfl) (by kernel_rfl) ?_)
    refine To.run 1 ?_
    refine To.run 2 ?_
    refine To.run 1 ?_
    refine To.run 8 ?_
    refine To.known 9 (.int .i64 (f : Int)) (by kernel_rfl) hf ?_
    refine To.known 10 (.int .i64 (t : Int)) (by kernel_rfl) ht ?_
    refine To.known 58 (.int .i64 (f : Int)) (by kernel_rfl) hf ?_
    refine To.known 59 (.int .i64 (t : Int)) (by kernel_rfl) ht ?_
    clear hf ht
    by_cases hft : f = t
    · subst hft
      have hno : ¬ isLane 3 f f := by unfold isLane; omega
      refine To.one (One.call 5 [2, 3] [0, 1, 4] (g := 56) (args := [Value.pointer (some { block := nb, off := 0 }), Value.int IntKind.i64 (↑f : Int), Value.int IntKind.i64 (↑f : Int), Value.int IntKind.i64 (↑i : Int)]) (by kernel_rfl) hs (NSendI_no (nb) (16) (3) ((↑f : Int)) ((↑f : Int)) (B) (C) (X) (by assumption) (Value.int IntKind.i64 (↑i : Int))) (by decide) rfl ?_)
      rintro _ _ w1 ⟨rfl, rfl⟩ hs1
      simp only [pickAll, List.filterMap_cons, List.filterMap_nil, List.getElem?_cons_zero, List.getElem?_cons_succ, List.cons_append, List.nil_append, List.drop_succ_cons, List.drop_zero] at hs1
      clear hs
      refine To.run 10 ?_
      refine To.isFalse 66 (t := (↑f : Int) != (↑f : Int)) (by kernel_rfl) (by simp) ?_
      refine To.run 22 ?_
      refine To.known 41 (v := .int .i64 (IntKind.i64.wrap ((↑i : Int) + 1))) (.int .i64 ((↑i : Int) + 1)) (by kernel_rfl) (by rw [wrap_i64 (by omega) (by omega)]) ?_
      refine To.run 2 ?_
      refine To.run 1 ?_
      refine To.at (fn := Try.f8) (n := 13) (l := [(0, Value.slice (some { block := b, off := off }) xs.length cap), (3, Value.bool true), (4, Value.pointer (some { block := nb, off := 0 })), (6, Value.pointer (some { block := b1, off := 0 })), (7, Value.int IntKind.i64 (↑(sumTo 3 X 25) : Int)), (8, Value.int IntKind.i64 ((↑i : Int) + 1))]) (by kernel_rfl) fun j => ?_
      exact ih (i + 1) A K X Y _ _ (by omega) (hs1.get [2, 3, 0, 1, 4] (by decide) rfl) hXY hD hI hX16
    · have his : isLane 3 f t := by unfold isLane; omega
      have e1 := hXY f t his
      have hk : f * 4 + t < 16 := by omega
      have hln : ln f t = f * 5 + t := by unfold ln; omega
      by_cases hr : (X (ln f t)).length < 16
      · have hs := (hs.get [1, 0, 2, 3, 4] (by decide) rfl).takeOut (f * 4 + t) hk
        have hL := loadS A K Y (f * 4 + t) hk
        have hS := storeS A K Y (f * 4 + t) hk
        have hr' := hr
        rw [e1] at hr'
        have hb := sumTo_le (dcs := 3) (X := X) hX16 25
        have hz : ((sumTo 3 (putAt X (ln f t) (Y (f * 4 + t) ++ [Value.int .i64 (i : Int)])) 25 : Nat) : Int) = (sumTo 3 X 25 : Nat) + 1 := by
          have := sum_put 3 X f t his (Y (f * 4 + t) ++ [Value.int .i64 (i : Int)])
          rw [e1] at this
          simp only [List.length_append, List.length_cons, List.length_nil] at this
          omega
        refine To.one (One.call 6 [3, 4] [0, 1, 2, 5] (g := 56) (args := [Value.pointer (some { block := nb, off := 0 }), Value.int IntKind.i64 (↑f : Int), Value.int IntKind.i64 (↑t : Int), Value.int IntKind.i64 (↑i : Int)]) (by kernel_rfl) hs (NSendI_room (nb) (16) (3) ((↑f : Int)) ((↑t : Int)) (B) (C) (X) (by omega) (by assumption) (by assumption) (Value.int IntKind.i64 (↑i : Int))) (by decide) rfl ?_)
        rintro _ _ w1 ⟨rfl, rfl⟩ hs1
        simp only [pickAll, List.filterMap_cons, List.filterMap_nil, List.getElem?_cons_zero, List.getElem?_cons_succ, List.cons_append, List.nil_append, List.drop_succ_cons, List.drop_zero] at hs1
        clear hs
        refine To.run 10 ?_
        refine To.isTrue 66 (t := (↑f : Int) != (↑t : Int)) (by kernel_rfl) (by (simp; omega)) ?_
        refine To.run 2 ?_
        refine To.one (One.ixaA (f) ((f) * 4) (t := 94) (b := b1) (off := 0) (n := 4) (sz := 4) (kd := IntKind.i64) (i := (↑f : Int)) (by kernel_rfl) (by kernel_rfl) (rfl) (by omega) (by omega) ?_)
        refine To.one (One.ixaA (t) (f * 4 + (t)) (t := 93) (b := b1) (off := f * 4) (n := 4) (sz := 1) (kd := IntKind.i64) (i := (↑t : Int)) (by kernel_rfl) (by kernel_rfl) (rfl) (by omega) (by omega) ?_)
        refine To.one (One.load 4 (t := 33) (off := f * 4 + t) (v := Value.slice (A (f * 4 + t)) (Y (f * 4 + t)).length (K (f * 4 + t))) hs1 rfl (by kernel_rfl) hL ?_)
        refine To.run 5 ?_
        refine To.isFalse 75 (t := !true == decide ((↑(Y (f * 4 + t)).length : Int) < 16)) (by kernel_rfl) (by (simp; omega)) ?_
        refine To.run 8 ?_
        refine To.draw [cel nb 128 (netCells 3 B), old W] 13 hs1 (by kernel_rfl) (by kernel_rfl) (by kernel_rfl) fun w2 hs2 => ?_
        clear hs1
        have hb1 := Sat.holds hs2 [0, 5] rfl
        refine Reg.pures [0, 1, 2, 3, 7] (fuel' := 8) hb1 rfl (by kernel_rfl) ?_
        refine Reg.val 4 hb1 (by kernel_rfl) (by kernel_rfl) (fun w' hw' => Val.ixaA (f) ((f) * 4) (t := 94) (b := b1) (off := 0) (n := 4) (sz := 4) (kd := IntKind.i64) (i := (↑f : Int)) (by kernel_rfl) (by kernel_rfl) (rfl) (by omega) (by omega)) ?_
        refine Reg.val 5 hb1 (by kernel_rfl) (by kernel_rfl) (fun w' hw' => Val.ixaA (t) (f * 4 + (t)) (t := 93) (b := b1) (off := f * 4) (n := 4) (sz := 1) (kd := IntKind.i64) (i := (↑t : Int)) (by kernel_rfl) (by kernel_rfl) (rfl) (by omega) (by omega)) ?_
        refine Reg.val 10 hb1 (by kernel_rfl) (by kernel_rfl) (fun w' hw' => Val.ixaA (f) ((f) * 4) (t := 94) (b := b1) (off := 0) (n := 4) (sz := 4) (kd := IntKind.i64) (i := (↑f : Int)) (by kernel_rfl) (by kernel_rfl) (rfl) (by omega) (by omega)) ?_
        refine Reg.step2 6 8 (by kernel_rfl) ?_ ?_
        refine  (One.load 4 (t := 33) (off := f * 4 + t) (v := Value.slice (A (f * 4 + t)) (Y (f * 4 + t)).length (K (f * 4 + t))) hs2 rfl (by kernel_rfl) hL ?_)
        have hb2 := Sat.holds hs2 [0, 5] (B := [cel nb 128 (netCells 3 B), old W]) rfl
        clear hb1
        refine ⟨hb2, ?_⟩
        refine Reg.step 8 (by kernel_rfl) (One.slit (t := 33) (n := 1) (parts := [(0, Value.int IntKind.i64 (↑i : Int))]) 3 [Value.int IntKind.i64 (↑i : Int)] hs2 (by kernel_rfl) (by kernel_rfl) fun b2 w3 hs1 => ?_)
        clear hs2
        have hb1 := Sat.holds hs1 [1, 6] (B := [cel nb 128 (netCells 3 B), old W]) rfl
        clear hb2
        refine ⟨hb1, ?_⟩
        refine Reg.step 9 (by kernel_rfl) (One.appRow 3 (t := 33) (ty := 33) (e := 3) (by_ := 8) (a := A (f * 4 + t)) (cap := K (f * 4 + t)) (m := 1) (cp := 1) (n := (Y (f * 4 + t)).length) (xs := Y (f * 4 + t)) (news := [Value.int IntKind.i64 (↑i : Int)]) (b := b2) (off := 0) hs1 rfl (by kernel_rfl) (by first | rfl | (simp; done)) (by kernel_rfl) (by first | rfl | (simp; done)) (fun j u hj => cell_row hs1 0 rfl hj) (by kernel_rfl) (by first | omega | (simp; omega)) (by first | omega | (simp; omega)) fun a1 cap1 w4 hs2 => ?_)
        simp only [List.set_cons_zero, List.set_cons_succ] at hs2
        clear hs1
        replace hs2 := Sat.selDrop hs2 7 [1, 2, 3, 4, 5, 6] (by decide) (by decide)
        simp only [pickAll, List.filterMap_cons, List.filterMap_nil, List.getElem?_cons_zero, List.getElem?_cons_succ, List.cons_append, List.nil_append, List.drop_succ_cons, List.drop_zero] at hs2
        have hb2 := Sat.holds hs2 [0, 5] (B := [cel nb 128 (netCells 3 B), old W]) rfl
        clear hb1
        refine ⟨hb2, ?_⟩
        refine Reg.step 11 (by kernel_rfl) (One.ixaA (t) (f * 4 + (t)) (t := 93) (b := b1) (off := f * 4) (n := 4) (sz := 1) (kd := IntKind.i64) (i := (↑t : Int)) (by kernel_rfl) (by kernel_rfl) (rfl) (by omega) (by omega) ?_)
        have hb1 := Sat.holds hs2 [0, 5] (B := [cel nb 128 (netCells 3 B), old W]) rfl
        clear hb2
        refine ⟨hb1, ?_⟩
        refine Reg.step 12 (by kernel_rfl) (One.store 4 (t := 33) (off := f * 4 + t) (v := Value.slice a1 (Y (f * 4 + t) ++ [Value.int IntKind.i64 (↑i : Int)]).length cap1) (vs' := (sliceCells A K Y).set (f * 4 + t) (Value.slice a1 (Y (f * 4 + t) ++ [Value.int IntKind.i64 (↑i : Int)]).length cap1)) hs2 rfl (by kernel_rfl) (hS _ _ _) (by kernel_rfl) fun w5 hs1 => ?_)
        simp only [List.set_cons_zero, List.set_cons_succ] at hs1
        clear hs2
        have hb2 := Sat.holds hs1 [0, 5] (B := [cel nb 128 (netCells 3 B), old W]) rfl
        clear hb1
        refine ⟨hb2, ?_⟩
        refine Reg.done (by kernel_rfl) ?_
        clear hb2
        rotate_left
        refine  (One.slit (t := 33) (n := 1) (parts := [(0, Value.int IntKind.i64 (↑i : Int))]) 3 [Value.int IntKind.i64 (↑i : Int)] hs2 (by kernel_rfl) (by kernel_rfl) fun b2 w3 hs1 => ?_)
        clear hs2
        have hb2 := Sat.holds hs1 [1, 6] (B := [cel nb 128 (netCells 3 B), old W]) rfl
        clear hb1
        refine ⟨hb2, ?_⟩
        refine Reg.step 6 (by kernel_rfl) (One.load 5 (t := 33) (off := f * 4 + t) (v := Value.slice (A (f * 4 + t)) (Y (f * 4 + t)).length (K (f * 4 + t))) hs1 rfl (by kernel_rfl) hL ?_)
        have hb1 := Sat.holds hs1 [1, 6] (B := [cel nb 128 (netCells 3 B), old W]) rfl
        clear hb2
        refine ⟨hb1, ?_⟩
        refine Reg.step 9 (by kernel_rfl) (One.appRow 3 (t := 33) (ty := 33) (e := 3) (by_ := 8) (a := A (f * 4 + t)) (cap := K (f * 4 + t)) (m := 1) (cp := 1) (n := (Y (f * 4 + t)).length) (xs := Y (f * 4 + t)) (news := [Value.int IntKind.i64 (↑i : Int)]) (b := b2) (off := 0) hs1 rfl (by kernel_rfl) (by first | rfl | (simp; done)) (by kernel_rfl) (by first | rfl | (simp; done)) (fun j u hj => cell_row hs1 0 rfl hj) (by kernel_rfl) (by first | omega | (simp; omega)) (by first | omega | (simp; omega)) fun a1 cap1 w4 hs2 => ?_)
        simp only [List.set_cons_zero, List.set_cons_succ] at hs2
        clear hs1
        replace hs2 := Sat.selDrop hs2 7 [1, 2, 3, 4, 5, 6] (by decide) (by decide)
        simp only [pickAll, List.filterMap_cons, List.filterMap_nil, List.getElem?_cons_zero, List.getElem?_cons_succ, List.cons_append, List.nil_append, List.drop_succ_cons, List.drop_zero] at hs2
        have hb2 := Sat.holds hs2 [0, 5] (B := [cel nb 128 (netCells 3 B), old W]) rfl
        clear hb1
        refine ⟨hb2, ?_⟩
        refine Reg.step 11 (by kernel_rfl) (One.ixaA (t) (f * 4 + (t)) (t := 93) (b := b1) (off := f * 4) (n := 4) (sz := 1) (kd := IntKind.i64) (i := (↑t : Int)) (by kernel_rfl) (by kernel_rfl) (rfl) (by omega) (by omega) ?_)
        have hb1 := Sat.holds hs2 [0, 5] (B := [cel nb 128 (netCells 3 B), old W]) rfl
        clear hb2
        refine ⟨hb1, ?_⟩
        refine Reg.step 12 (by kernel_rfl) (One.store 4 (t := 33) (off := f * 4 + t) (v := Value.slice a1 (Y (f * 4 + t) ++ [Value.int IntKind.i64 (↑i : Int)]).length cap1) (vs' := (sliceCells A K Y).set (f * 4 + t) (Value.slice a1 (Y (f * 4 + t) ++ [Value.int IntKind.i64 (↑i : Int)]).length cap1)) hs2 rfl (by kernel_rfl) (hS _ _ _) (by kernel_rfl) fun w5 hs1 => ?_)
        simp only [List.set_cons_zero, List.set_cons_succ] at hs1
        clear hs2
        have hb2 := Sat.holds hs1 [0, 5] (B := [cel nb 128 (netCells 3 B), old W]) rfl
        clear hb1
        refine ⟨hb2, ?_⟩
        refine Reg.done (by kernel_rfl) ?_
        clear hb2
        rotate_left
        refine To.run 3 ?_
        refine To.known 90 (v := .int .i64 (IntKind.i64.wrap ((↑(sumTo 3 X 25) : Int) + 1))) (.int .i64 ((↑(sumTo 3 X 25) : Int) + 1)) (by kernel_rfl) (by rw [wrap_i64 (by omega) (by omega)]) ?_
        refine To.run 8 ?_
        · refine To.run 1 ?_
          refine To.known 8 (v := .int .i64 (IntKind.i64.wrap ((↑i : Int) + 1))) (.int .i64 ((↑i : Int) + 1)) (by kernel_rfl) (by rw [wrap_i64 (by omega) (by omega)]) ?_
          refine To.at (fn := Try.f8) (n := 13) (l := [(0, Value.slice (some { block := b, off := off }) xs.length cap), (3, Value.bool true), (4, Value.pointer (some { block := nb, off := 0 })), (6, Value.pointer (some { block := b1, off := 0 })), (7, Value.int IntKind.i64 ((↑(sumTo 3 X 25) : Int) + 1)), (8, Value.int IntKind.i64 ((↑i : Int) + 1))]) (by kernel_rfl) fun j => ?_
          rw [sliceCells_set A K Y (f * 4 + t) hk, e1] at hs1
          have hs2 := Sat.rowsIn (f * 4 + t) hk (hs1.get [2, 3, 4, 0, 1, 5] (by decide) rfl)
          rw [← hz]
          exact ih (i + 1) _ _ _ _ _ _ (by omega) (hs2.get [1, 0, 2, 3, 4] (by decide) rfl) (twin_put hXY hf1 hf3 ht1 ht3 hft _) (diag_put hD hf1 hf3 ht1 ht3 hft _) (ints_put hI _ _) (len_put hX16 _ _ (by simp; omega))
        · refine To.run 11 ?_
          refine To.run 1 ?_
          refine To.known 7 (v := .int .i64 (IntKind.i64.wrap ((↑(sumTo 3 X 25) : Int) + 1))) (.int .i64 ((↑(sumTo 3 X 25) : Int) + 1)) (by kernel_rfl) (by rw [wrap_i64 (by omega) (by omega)]) ?_
          refine To.known 8 (v := .int .i64 (IntKind.i64.wrap ((↑i : Int) + 1))) (.int .i64 ((↑i : Int) + 1)) (by kernel_rfl) (by rw [wrap_i64 (by omega) (by omega)]) ?_
          refine To.at (fn := Try.f8) (n := 13) (l := [(0, Value.slice (some { block := b, off := off }) xs.length cap), (3, Value.bool true), (4, Value.pointer (some { block := nb, off := 0 })), (6, Value.pointer (some { block := b1, off := 0 })), (7, Value.int IntKind.i64 ((↑(sumTo 3 X 25) : Int) + 1)), (8, Value.int IntKind.i64 ((↑i : Int) + 1))]) (by kernel_rfl) fun j => ?_
          rw [sliceCells_set A K Y (f * 4 + t) hk, e1] at hs1
          have hs2 := Sat.rowsIn (f * 4 + t) hk (hs1.get [2, 3, 4, 0, 1, 5] (by decide) rfl)
          rw [← hz]
          exact ih (i + 1) _ _ _ _ _ _ (by omega) (hs2.get [1, 0, 2, 3, 4] (by decide) rfl) (twin_put hXY hf1 hf3 ht1 ht3 hft _) (diag_put hD hf1 hf3 ht1 ht3 hft _) (ints_put hI _ _) (len_put hX16 _ _ (by simp; omega))
      · have hL := loadS A K Y (f * 4 + t) hk
        have hr' := hr
        rw [e1] at hr'
        refine To.one (One.call 5 [2, 3] [0, 1, 4] (g := 56) (args := [Value.pointer (some { block := nb, off := 0 }), Value.int IntKind.i64 (↑f : Int), Value.int IntKind.i64 (↑t : Int), Value.int IntKind.i64 (↑i : Int)]) (by kernel_rfl) hs (NSendI_full (nb) (16) (3) ((↑f : Int)) ((↑t : Int)) (B) (C) (X) (by omega) (by assumption) (by omega) (Value.int IntKind.i64 (↑i : Int))) (by decide) rfl ?_)
        rintro _ _ w1 ⟨rfl, rfl⟩ hs1
        simp only [pickAll, List.filterMap_cons, List.filterMap_nil, List.getElem?_cons_zero, List.getElem?_cons_succ, List.cons_append, List.nil_append, List.drop_succ_cons, List.drop_zero] at hs1
        clear hs
        refine To.run 10 ?_
        refine To.isTrue 66 (t := (↑f : Int) != (↑t : Int)) (by kernel_rfl) (by (simp; omega)) ?_
        refine To.run 2 ?_
        refine To.one (One.ixaA (f) ((f) * 4) (t := 94) (b := b1) (off := 0) (n := 4) (sz := 4) (kd := IntKind.i64) (i := (↑f : Int)) (by kernel_rfl) (by kernel_rfl) (rfl) (by omega) (by omega) ?_)
        refine To.one (One.ixaA (t) (f * 4 + (t)) (t := 93) (b := b1) (off := f * 4) (n := 4) (sz := 1) (kd := IntKind.i64) (i := (↑t : Int)) (by kernel_rfl) (by kernel_rfl) (rfl) (by omega) (by omega) ?_)
        refine To.one (One.load 2 (t := 33) (off := f * 4 + t) (v := Value.slice (A (f * 4 + t)) (Y (f * 4 + t)).length (K (f * 4 + t))) hs1 rfl (by kernel_rfl) hL ?_)
        refine To.run 5 ?_
        refine To.isFalse 75 (t := !false == decide ((↑(Y (f * 4 + t)).length : Int) < 16)) (by kernel_rfl) (by (simp; omega)) ?_
        refine To.run 14 ?_
        refine To.run 1 ?_
        refine To.known 8 (v := .int .i64 (IntKind.i64.wrap ((↑i : Int) + 1))) (.int .i64 ((↑i : Int) + 1)) (by kernel_rfl) (by rw [wrap_i64 (by omega) (by omega)]) ?_
        refine To.at (fn := Try.f8) (n := 13) (l := [(0, Value.slice (some { block := b, off := off }) xs.length cap), (3, Value.bool true), (4, Value.pointer (some { block := nb, off := 0 })), (6, Value.pointer (some { block := b1, off := 0 })), (7, Value.int IntKind.i64 (↑(sumTo 3 X 25) : Int)), (8, Value.int IntKind.i64 ((↑i : Int) + 1))]) (by kernel_rfl) fun j => ?_
        exact ih (i + 1) A K X Y _ _ (by omega) (hs1.get [2, 3, 0, 1, 4] (by decide) rfl) hXY hD hI hX16

end Go.Proofs.Ythojpcfaaiefhaa
