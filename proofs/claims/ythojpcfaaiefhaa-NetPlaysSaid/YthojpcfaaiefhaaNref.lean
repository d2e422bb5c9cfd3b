import Derived.Test.YthojpcfaaiefhaaProg
import Derived.Test.YthojpcfaaiefhaaSxLaw
import Derived.Test.YthojpcfaaiefhaaNlaneb
set_option linter.unusedSimpArgs false
set_option linter.unusedVariables false
namespace Go.Proofs.Ythojpcfaaiefhaa
open Go Go.Sx
set_option linter.unusedSimpArgs false
set_option maxHeartbeats 0
set_option maxRecDepth 20000

/-- The reference's block. -/
def qCells (dcs room : Int) (A : Nat → Option Addr) (K : Nat → Nat) (X : Nat → List Value) : List Value := .int .i64 dcs :: .int .i64 room :: (List.range 25).map fun i => .slice (A i) (X i).length (K i)
def segs25 (A : Nat → Option Addr) (K : Nat → Nat) (X : Nat → List Value) : Res := many 25 fun i => seg (A i) (K i) 9 (X i)

theorem qCells_at (dcs room : Int) (A : Nat → Option Addr) (K : Nat → Nat) (X : Nat → List Value) (i : Nat) (hi : i < 25) : (qCells dcs room A K X)[i + 2]? = some (.slice (A i) (X i).length (K i)) := by
  simp [qCells, hi]
theorem qCells_len (dcs room : Int) (A : Nat → Option Addr) (K : Nat → Nat) (X : Nat → List Value) : (qCells dcs room A K X).length = 27 := by simp [qCells]
theorem qCells_set (dcs room : Int) (A : Nat → Option Addr) (K : Nat → Nat) (X : Nat → List Value) (k : Nat) (hk : k < 25) (a : Option Addr) (c : Nat) (ys : List Value) :
    (qCells dcs room A K X).set (k + 2) (.slice a ys.length c) = qCells dcs room (putAt A k a) (putAt K k c) (putAt X k ys) := by
  unfold qCells
  simp only [List.set_cons_succ, List.cons.injEq, true_and]
  apply List.ext_getElem?
  intro i
  rw [List.getElem?_set]
  by_cases hi : i < 25
  · by_cases hki : k = i
    · subst hki
      simp [hi]
    · simp [hki, hi, putAt, Ne.symm hki]
  · have h1 : ¬ k = i := by omega
    simp [hi, h1]

theorem qLoad (dcs room : Int) (A : Nat → Option Addr) (K : Nat → Nat) (X : Nat → List Value) (f t : Nat) (hk : f * 5 + t < 25) : loadV Try.prog 42 (qCells dcs room A K X) (2 + f * 5 + t) = some (.slice (A (f * 5 + t)) (X (f * 5 + t)).length (K (f * 5 + t))) := by
  have h : ∀ (vs : List Value) (k : Nat), loadV Try.prog 42 vs k = vs[k]? := fun vs k => by kernel_rfl
  rw [h, show 2 + f * 5 + t = f * 5 + t + 2 by omega]; exact qCells_at dcs room A K X _ hk
theorem qStore (dcs room : Int) (A : Nat → Option Addr) (K : Nat → Nat) (X : Nat → List Value) (f t : Nat) (hk : f * 5 + t < 25) (a : Option Addr) (n c : Nat) : storeV Try.prog 42 (.slice a n c) (qCells dcs room A K X) (2 + f * 5 + t) = some ((qCells dcs room A K X).set (f * 5 + t + 2) (.slice a n c)) := by
  have h : ∀ (vs : List Value) (k : Nat), storeV Try.prog 42 (.slice a n c) vs k = if k + 1 ≤ vs.length then some (vs.take k ++ [.slice a n c] ++ vs.drop (k + 1)) else none := fun vs k => by kernel_rfl
  have hl := qCells_len dcs room A K X
  rw [h, if_pos (by omega), List.set_eq_take_append_cons_drop, if_pos (by omega), show 2 + f * 5 + t = f * 5 + t + 2 by omega]
  simp

theorem Sat.segsIn {E w : World} {L : List Res} {A : Nat → Option Addr} {K : Nat → Nat} {X : Nat → List Value} {a : Option Addr} {c : Nat} {ys : List Value} (k : Nat) (hk : k < 25)
    (h : Sat E w (seg a c 9 ys :: hole 25 (fun i => seg (A i) (K i) 9 (X i)) k :: L)) : Sat E w (segs25 (putAt A k a) (putAt K k c) (putAt X k ys) :: L) := by
  refine Sat.putIn (g := fun i => seg (A i) (K i) 9 (X i)) k hk (fun j hj => ?_) ?_
  · simp [putAt, hj]
  · simp only [putAt_same]
    exact h

theorem QNew_bad (dcs room : Int) (h : dcs < 1 ∨ 4 < dcs ∨ room < 1 ∨ 16 < room) : Trip Try.prog 41 [.int .i64 dcs, .int .i64 room] [] (fun v l => v = .pointer none ∧ l = []) := by
  refine Trip.of Try.func41 (by kernel_rfl) fun E w L hs => ?_
  by_cases h1 : dcs < 1
  · simp only [List.cons_append, List.nil_append] at hs
    refine To.run 10 ?_
    refine To.isTrue 7 (t := decide (dcs < 1)) (by kernel_rfl) (by (simp; omega)) ?_
    refine To.run 17 ?_
    refine To.retv Try.func41 (by kernel_rfl) (v := Value.pointer none) (by kernel_rfl) ?_
    exact ⟨_, _, rfl, ⟨rfl, rfl⟩, hs⟩
  by_cases h2 : 4 < dcs
  · simp only [List.cons_append, List.nil_append] at hs
    refine To.run 10 ?_
    refine To.isFalse 7 (t := decide (dcs < 1)) (by kernel_rfl) (by (simp; omega)) ?_
    refine To.run 4 ?_
    refine To.isTrue 11 (t := decide (dcs > 4)) (by kernel_rfl) (by (simp; omega)) ?_
    refine To.run 13 ?_
    refine To.retv Try.func41 (by kernel_rfl) (v := Value.pointer none) (by kernel_rfl) ?_
    exact ⟨_, _, rfl, ⟨rfl, rfl⟩, hs⟩
  by_cases h3 : room < 1
  · simp only [List.cons_append, List.nil_append] at hs
    refine To.run 10 ?_
    refine To.isFalse 7 (t := decide (dcs < 1)) (by kernel_rfl) (by (simp; omega)) ?_
    refine To.run 4 ?_
    refine To.isFalse 11 (t := decide (dcs > 4)) (by kernel_rfl) (by (simp; omega)) ?_
    refine To.run 4 ?_
    refine To.isTrue 15 (t := decide (room < 1)) (by kernel_rfl) (by (simp; omega)) ?_
    refine To.run 9 ?_
    refine To.retv Try.func41 (by kernel_rfl) (v := Value.pointer none) (by kernel_rfl) ?_
    exact ⟨_, _, rfl, ⟨rfl, rfl⟩, hs⟩
  have h4 : 16 < room := by omega
  simp only [List.cons_append, List.nil_append] at hs
  refine To.run 10 ?_
  refine To.isFalse 7 (t := decide (dcs < 1)) (by kernel_rfl) (by (simp; omega)) ?_
  refine To.run 4 ?_
  refine To.isFalse 11 (t := decide (dcs > 4)) (by kernel_rfl) (by (simp; omega)) ?_
  refine To.run 4 ?_
  refine To.isFalse 15 (t := decide (room < 1)) (by kernel_rfl) (by (simp; omega)) ?_
  refine To.run 4 ?_
  refine To.isTrue 18 (t := decide (room > 16)) (by kernel_rfl) (by (simp; omega)) ?_
  refine To.run 5 ?_
  refine To.retv Try.func41 (by kernel_rfl) (v := Value.pointer none) (by kernel_rfl) ?_
  exact ⟨_, _, rfl, ⟨rfl, rfl⟩, hs⟩

theorem QNew_ok (dcs room : Int) (h1 : 1 ≤ dcs) (h2 : dcs ≤ 4) (h3 : 1 ≤ room) (h4 : room ≤ 16) : Trip Try.prog 41 [.int .i64 dcs, .int .i64 room] []
    (fun v l => ∃ xb, v = .pointer (some ⟨xb, 0, none⟩) ∧ l = [cel xb 123 (qCells dcs room (fun _ => none) (fun _ => 0) (fun _ => [])), segs25 (fun _ => none) (fun _ => 0) (fun _ => [])]) := by
  refine Trip.of Try.func41 (by kernel_rfl) fun E w L hs => ?_
  simp only [List.cons_append, List.nil_append] at hs
  refine To.run 10 ?_
  refine To.isFalse 7 (t := decide (dcs < 1)) (by kernel_rfl) (by (simp; omega)) ?_
  refine To.run 4 ?_
  refine To.isFalse 11 (t := decide (dcs > 4)) (by kernel_rfl) (by (simp; omega)) ?_
  refine To.run 4 ?_
  refine To.isFalse 15 (t := decide (room < 1)) (by kernel_rfl) (by (simp; omega)) ?_
  refine To.run 4 ?_
  refine To.isFalse 18 (t := decide (room > 16)) (by kernel_rfl) (by (simp; omega)) ?_
  refine To.run 7 ?_
  refine To.one (One.box (t := 123) (v := Value.agg #[Value.int IntKind.i64 dcs, Value.int IntKind.i64 room, Value.slice none 0 0, Value.slice none 0 0, Value.slice none 0 0, Value.slice none 0 0, Value.slice none 0 0, Value.slice none 0 0, Value.slice none 0 0, Value.slice none 0 0, Value.slice none 0 0, Value.slice none 0 0, Value.slice none 0 0, Value.slice none 0 0, Value.slice none 0 0, Value.slice none 0 0, Value.slice none 0 0, Value.slice none 0 0, Value.slice none 0 0, Value.slice none 0 0, Value.slice none 0 0, Value.slice none 0 0, Value.slice none 0 0, Value.slice none 0 0, Value.slice none 0 0, Value.slice none 0 0, Value.slice none 0 0]) [Value.int IntKind.i64 dcs, Value.int IntKind.i64 room, Value.slice none 0 0, Value.slice none 0 0, Value.slice none 0 0, Value.slice none 0 0, Value.slice none 0 0, Value.slice none 0 0, Value.slice none 0 0, Value.slice none 0 0, Value.slice none 0 0, Value.slice none 0 0, Value.slice none 0 0, Value.slice none 0 0, Value.slice none 0 0, Value.slice none 0 0, Value.slice none 0 0, Value.slice none 0 0, Value.slice none 0 0, Value.slice none 0 0, Value.slice none 0 0, Value.slice none 0 0, Value.slice none 0 0, Value.slice none 0 0, Value.slice none 0 0, Value.slice none 0 0, Value.slice none 0 0] hs (by kernel_rfl) (by kernel_rfl) fun b1 w1 hs1 => ?_)
  clear hs
  refine To.run 2 ?_
  refine To.retv Try.func41 (by kernel_rfl) (v := Value.pointer (some { block := b1, off := 0 })) (by kernel_rfl) ?_
  have hs2 : Sat E w1 (segs25 (fun _ => none) (fun _ => 0) (fun _ => []) :: _) := Sat.manyNil 25 (fun i => seg none 0 9 []) (fun _ => .inl ⟨rfl, rfl, rfl⟩) (fun i b hb => by simp [seg, Value.ownBlock] at hb) hs1
  exact ⟨_, _, rfl, ⟨b1, rfl, rfl⟩, hs2.perm (List.Perm.swap _ _ _)⟩

theorem Qis (xb : Nat) (dcs room f t : Int) (A : Nat → Option Addr) (K : Nat → Nat) (X : Nat → List Value) (h : isLane dcs f t) : Trip Try.prog 65 [.pointer (some ⟨xb, 0, none⟩), .int .i64 f, .int .i64 t] [cel xb 123 (qCells dcs room A K X)] (fun v l => v = .bool true ∧ l = [cel xb 123 (qCells dcs room A K X)]) := by
  obtain ⟨h1, h2, h3, h5, h6⟩ := h
  refine Trip.of Try.func65 (by kernel_rfl) fun E w L hs => ?_
  simp only [List.cons_append, List.nil_append] at hs
  refine To.run 9 ?_
  refine To.isTrue 9 (t := decide (f ≥ 1)) (by kernel_rfl) (by (simp; omega)) ?_
  refine To.run 4 ?_
  refine To.one (One.load 0 (t := 3) (off := 0) (v := Value.int IntKind.i64 dcs) hs rfl (by kernel_rfl) (by kernel_rfl) ?_)
  refine To.run 3 ?_
  refine To.isTrue 17 (t := decide (f ≤ dcs)) (by kernel_rfl) (by (simp; omega)) ?_
  refine To.run 4 ?_
  refine To.isTrue 21 (t := decide (t ≥ 1)) (by kernel_rfl) (by (simp; omega)) ?_
  refine To.run 4 ?_
  refine To.one (One.load 0 (t := 3) (off := 0) (v := Value.int IntKind.i64 dcs) hs rfl (by kernel_rfl) (by kernel_rfl) ?_)
  refine To.run 3 ?_
  refine To.isTrue 29 (t := decide (t ≤ dcs)) (by kernel_rfl) (by (simp; omega)) ?_
  refine To.run 6 ?_
  refine To.retv Try.func65 (by kernel_rfl) (v := Value.bool (f != t)) (by kernel_rfl) ?_
  have e1 : (f != t) = true := by simp [h6]
  exact ⟨_, _, rfl, ⟨by rw [e1], rfl⟩, hs⟩

theorem Qno (xb : Nat) (dcs room f t : Int) (A : Nat → Option Addr) (K : Nat → Nat) (X : Nat → List Value) (h : ¬ isLane dcs f t) : Trip Try.prog 65 [.pointer (some ⟨xb, 0, none⟩), .int .i64 f, .int .i64 t] [cel xb 123 (qCells dcs room A K X)] (fun v l => v = .bool false ∧ l = [cel xb 123 (qCells dcs room A K X)]) := by
  refine Trip.of Try.func65 (by kernel_rfl) fun E w L hs => ?_
  by_cases h1 : f < 1
  · simp only [List.cons_append, List.nil_append] at hs
    refine To.run 9 ?_
    refine To.isFalse 9 (t := decide (f ≥ 1)) (by kernel_rfl) (by (simp; omega)) ?_
    refine To.run 26 ?_
    refine To.retv Try.func65 (by kernel_rfl) (v := Value.bool false) (by kernel_rfl) ?_
    exact ⟨_, _, rfl, ⟨rfl, rfl⟩, hs⟩
  by_cases h2 : dcs < f
  · simp only [List.cons_append, List.nil_append] at hs
    refine To.run 9 ?_
    refine To.isTrue 9 (t := decide (f ≥ 1)) (by kernel_rfl) (by (simp; omega)) ?_
    refine To.run 4 ?_
    refine To.one (One.load 0 (t := 3) (off := 0) (v := Value.int IntKind.i64 dcs) hs rfl (by kernel_rfl) (by kernel_rfl) ?_)
    refine To.run 3 ?_
    refine To.isFalse 17 (t := decide (f ≤ dcs)) (by kernel_rfl) (by (simp; omega)) ?_
    refine To.run 18 ?_
    refine To.retv Try.func65 (by kernel_rfl) (v := Value.bool false) (by kernel_rfl) ?_
    exact ⟨_, _, rfl, ⟨rfl, rfl⟩, hs⟩
  by_cases h3 : t < 1
  · simp only [List.cons_append, List.nil_append] at hs
    refine To.run 9 ?_
    refine To.isTrue 9 (t := decide (f ≥ 1)) (by kernel_rfl) (by (simp; omega)) ?_
    refine To.run 4 ?_
    refine To.one (One.load 0 (t := 3) (off := 0) (v := Value.int IntKind.i64 dcs) hs rfl (by kernel_rfl) (by kernel_rfl) ?_)
    refine To.run 3 ?_
    refine To.isTrue 17 (t := decide (f ≤ dcs)) (by kernel_rfl) (by (simp; omega)) ?_
    refine To.run 4 ?_
    refine To.isFalse 21 (t := decide (t ≥ 1)) (by kernel_rfl) (by (simp; omega)) ?_
    refine To.run 14 ?_
    refine To.retv Try.func65 (by kernel_rfl) (v := Value.bool false) (by kernel_rfl) ?_
    exact ⟨_, _, rfl, ⟨rfl, rfl⟩, hs⟩
  by_cases h4 : dcs < t
  · simp only [List.cons_append, List.nil_append] at hs
    refine To.run 9 ?_
    refine To.isTrue 9 (t := decide (f ≥ 1)) (by kernel_rfl) (by (simp; omega)) ?_
    refine To.run 4 ?_
    refine To.one (One.load 0 (t := 3) (off := 0) (v := Value.int IntKind.i64 dcs) hs rfl (by kernel_rfl) (by kernel_rfl) ?_)
    refine To.run 3 ?_
    refine To.isTrue 17 (t := decide (f ≤ dcs)) (by kernel_rfl) (by (simp; omega)) ?_
    refine To.run 4 ?_
    refine To.isTrue 21 (t := decide (t ≥ 1)) (by kernel_rfl) (by (simp; omega)) ?_
    refine To.run 4 ?_
    refine To.one (One.load 0 (t := 3) (off := 0) (v := Value.int IntKind.i64 dcs) hs rfl (by kernel_rfl) (by kernel_rfl) ?_)
    refine To.run 3 ?_
    refine To.isFalse 29 (t := decide (t ≤ dcs)) (by kernel_rfl) (by (simp; omega)) ?_
    refine To.run 6 ?_
    refine To.retv Try.func65 (by kernel_rfl) (v := Value.bool false) (by kernel_rfl) ?_
    exact ⟨_, _, rfl, ⟨rfl, rfl⟩, hs⟩
  have h5 : f = t := by
    by_cases e : f = t
    · exact e
    · exact absurd ⟨by omega, by omega, by omega, by omega, e⟩ h
  subst h5
  simp only [List.cons_append, List.nil_append] at hs
  refine To.run 9 ?_
  refine To.isTrue 9 (t := decide (f ≥ 1)) (by kernel_rfl) (by (simp; omega)) ?_
  refine To.run 4 ?_
  refine To.one (One.load 0 (t := 3) (off := 0) (v := Value.int IntKind.i64 dcs) hs rfl (by kernel_rfl) (by kernel_rfl) ?_)
  refine To.run 3 ?_
  refine To.isTrue 17 (t := decide (f ≤ dcs)) (by kernel_rfl) (by (simp; omega)) ?_
  refine To.run 4 ?_
  refine To.isTrue 21 (t := decide (f ≥ 1)) (by kernel_rfl) (by (simp; omega)) ?_
  refine To.run 4 ?_
  refine To.one (One.load 0 (t := 3) (off := 0) (v := Value.int IntKind.i64 dcs) hs rfl (by kernel_rfl) (by kernel_rfl) ?_)
  refine To.run 3 ?_
  refine To.isTrue 29 (t := decide (f ≤ dcs)) (by kernel_rfl) (by (simp; omega)) ?_
  refine To.run 6 ?_
  refine To.retv Try.func65 (by kernel_rfl) (v := Value.bool (f != f)) (by kernel_rfl) ?_
  exact ⟨_, _, rfl, ⟨by simp, rfl⟩, hs⟩

theorem QLen_no (xb : Nat) (dcs room f t : Int) (A : Nat → Option Addr) (K : Nat → Nat) (X : Nat → List Value) (h : ¬ isLane dcs f t) : Trip Try.prog 52 [.pointer (some ⟨xb, 0, none⟩), .int .i64 f, .int .i64 t] [cel xb 123 (qCells dcs room A K X)]
    (fun v l => v = .int .i64 0 ∧ l = [cel xb 123 (qCells dcs room A K X)]) := by
  refine Trip.of Try.func52 (by kernel_rfl) fun E w L hs => ?_
  simp only [List.cons_append, List.nil_append] at hs
  refine To.run 10 ?_
  refine To.one (One.call 1 [0] [] (g := 65) (args := [Value.pointer (some { block := xb, off := 0 }), Value.int IntKind.i64 f, Value.int IntKind.i64 t]) (by kernel_rfl) hs (Qno (xb) (dcs) (room) (f) (t) (A) (K) (X) (by assumption)) (by decide) rfl ?_)
  rintro _ _ w1 ⟨rfl, rfl⟩ hs1
  simp only [pickAll, List.filterMap_cons, List.filterMap_nil, List.getElem?_cons_zero, List.getElem?_cons_succ, List.cons_append, List.nil_append, List.drop_succ_cons, List.drop_zero] at hs1
  clear hs
  refine To.run 7 ?_
  refine To.retv Try.func52 (by kernel_rfl) (v := Value.int IntKind.i64 0) (by kernel_rfl) ?_
  exact ⟨_, _, rfl, ⟨rfl, rfl⟩, hs1⟩

theorem QLen_is (xb : Nat) (dcs room : Int) (f t : Nat) (A : Nat → Option Addr) (K : Nat → Nat) (X : Nat → List Value) (h4 : dcs ≤ 4) (h : isLane dcs f t) : Trip Try.prog 52 [.pointer (some ⟨xb, 0, none⟩), .int .i64 f, .int .i64 t] [cel xb 123 (qCells dcs room A K X)]
    (fun v l => v = .int .i64 (X (f * 5 + t)).length ∧ l = [cel xb 123 (qCells dcs room A K X)]) := by
  refine Trip.of Try.func52 (by kernel_rfl) fun E w L hs => ?_
  have h' := h
  obtain ⟨h1, h2, h3, h5, h6⟩ := h'
  have hL := qLoad dcs room A K X f t (by omega)
  simp only [List.cons_append, List.nil_append] at hs
  refine To.run 10 ?_
  refine To.one (One.call 1 [0] [] (g := 65) (args := [Value.pointer (some { block := xb, off := 0 }), Value.int IntKind.i64 (↑f : Int), Value.int IntKind.i64 (↑t : Int)]) (by kernel_rfl) hs (Qis (xb) (dcs) (room) ((↑f : Int)) ((↑t : Int)) (A) (K) (X) (by assumption)) (by decide) rfl ?_)
  rintro _ _ w1 ⟨rfl, rfl⟩ hs1
  simp only [pickAll, List.filterMap_cons, List.filterMap_nil, List.getElem?_cons_zero, List.getElem?_cons_succ, List.cons_append, List.nil_append, List.drop_succ_cons, List.drop_zero] at hs1
  clear hs
  refine To.run 11 ?_
  refine To.one (One.ixaA (f) (2 + (f) * 5) (t := 121) (b := xb) (off := 2) (n := 5) (sz := 5) (kd := IntKind.i64) (i := (↑f : Int)) (by kernel_rfl) (by kernel_rfl) (rfl) (by omega) (by omega) ?_)
  refine To.one (One.ixaA (t) (2 + f * 5 + (t)) (t := 120) (b := xb) (off := 2 + f * 5) (n := 5) (sz := 1) (kd := IntKind.i64) (i := (↑t : Int)) (by kernel_rfl) (by kernel_rfl) (rfl) (by omega) (by omega) ?_)
  refine To.one (One.load 0 (t := 42) (off := 2 + f * 5 + t) (v := Value.slice (A (f * 5 + t)) (X (f * 5 + t)).length (K (f * 5 + t))) hs1 rfl (by kernel_rfl) hL ?_)
  refine To.run 3 ?_
  refine To.retv Try.func52 (by kernel_rfl) (v := Value.int IntKind.i64 (↑(X (f * 5 + t)).length : Int)) (by kernel_rfl) ?_
  exact ⟨_, _, rfl, ⟨rfl, rfl⟩, hs1⟩

theorem qDone {E w : World} {L : List Res} {xb k c : Nat} {cs : List Value} {A : Nat → Option Addr} {K : Nat → Nat} {X : Nat → List Value} {a : Option Addr} {ys : List Value} (hk : k < 25)
    (h : Sat E w (cel xb 123 cs :: seg a c 9 ys :: hole 25 (fun i => seg (A i) (K i) 9 (X i)) k :: L)) :
    Sat E w ([cel xb 123 cs, segs25 (putAt A k a) (putAt K k c) (putAt X k ys)] ++ L) := by
  have h1 := Sat.segsIn k hk (h.perm (List.perm_middle (l₁ := [seg a c 9 ys, hole 25 (fun i => seg (A i) (K i) 9 (X i)) k])).symm)
  exact h1.perm (List.Perm.swap _ _ _)

theorem QTake_no (xb : Nat) (dcs room f t : Int) (A : Nat → Option Addr) (K : Nat → Nat) (X : Nat → List Value) (h : ¬ isLane dcs f t) : Trip Try.prog 43 [.pointer (some ⟨xb, 0, none⟩), .int .i64 f, .int .i64 t] [cel xb 123 (qCells dcs room A K X), segs25 A K X]
    (fun v l => v = .tuple #[.string ⟨#[]⟩, .bool false] ∧ l = [cel xb 123 (qCells dcs room A K X), segs25 A K X]) := by
  refine Trip.of Try.func43 (by kernel_rfl) fun E w L hs => ?_
  simp only [List.cons_append, List.nil_append] at hs
  refine To.run 11 ?_
  refine To.one (One.call 2 [0] [1] (g := 52) (args := [Value.pointer (some { block := xb, off := 0 }), Value.int IntKind.i64 f, Value.int IntKind.i64 t]) (by kernel_rfl) hs (QLen_no (xb) (dcs) (room) (f) (t) (A) (K) (X) (by assumption)) (by decide) rfl ?_)
  rintro _ _ w1 ⟨rfl, rfl⟩ hs1
  simp only [pickAll, List.filterMap_cons, List.filterMap_nil, List.getElem?_cons_zero, List.getElem?_cons_succ, List.cons_append, List.nil_append, List.drop_succ_cons, List.drop_zero] at hs1
  clear hs
  refine To.run 8 ?_
  refine To.retv Try.func43 (by kernel_rfl) (v := Value.tuple #[Value.string { data := #[] }, Value.bool false]) (by kernel_rfl) ?_
  exact ⟨_, _, rfl, ⟨rfl, rfl⟩, hs1⟩

theorem QTake_none (xb : Nat) (dcs room : Int) (f t : Nat) (A : Nat → Option Addr) (K : Nat → Nat) (X : Nat → List Value) (h4 : dcs ≤ 4) (h : isLane dcs f t) (hX : X (f * 5 + t) = []) : Trip Try.prog 43 [.pointer (some ⟨xb, 0, none⟩), .int .i64 f, .int .i64 t] [cel xb 123 (qCells dcs room A K X), segs25 A K X]
    (fun v l => v = .tuple #[.string ⟨#[]⟩, .bool false] ∧ l = [cel xb 123 (qCells dcs room A K X), segs25 A K X]) := by
  refine Trip.of Try.func43 (by kernel_rfl) fun E w L hs => ?_
  simp only [List.cons_append, List.nil_append] at hs
  have c1 := QLen_is xb dcs room f t A K X h4 h
  rw [hX] at c1
  refine To.run 11 ?_
  refine To.one (One.call 2 [0] [1] (g := 52) (args := [Value.pointer (some { block := xb, off := 0 }), Value.int IntKind.i64 (↑f : Int), Value.int IntKind.i64 (↑t : Int)]) (by kernel_rfl) hs (c1) (by decide) rfl ?_)
  rintro _ _ w1 ⟨rfl, rfl⟩ hs1
  simp only [pickAll, List.filterMap_cons, List.filterMap_nil, List.getElem?_cons_zero, List.getElem?_cons_succ, List.cons_append, List.nil_append, List.drop_succ_cons, List.drop_zero] at hs1
  clear hs
  refine To.run 8 ?_
  refine To.retv Try.func43 (by kernel_rfl) (v := Value.tuple #[Value.string { data := #[] }, Value.bool false]) (by kernel_rfl) ?_
  exact ⟨_, _, rfl, ⟨rfl, rfl⟩, hs1⟩

theorem QTake_some (xb : Nat) (dcs room : Int) (f t : Nat) (A : Nat → Option Addr) (K : Nat → Nat) (X : Nat → List Value) (h4 : dcs ≤ 4) (h : isLane dcs f t) (x : Value) (xs : List Value) (hX : X (f * 5 + t) = x :: xs) (hx : xs.length ≤ 1000) : Trip Try.prog 43 [.pointer (some ⟨xb, 0, none⟩), .int .i64 f, .int .i64 t] [cel xb 123 (qCells dcs room A K X), segs25 A K X]
    (fun v l => ∃ A' K', v = .tuple #[x, .bool true] ∧ l = [cel xb 123 (qCells dcs room A' K' (putAt X (f * 5 + t) xs)), segs25 A' K' (putAt X (f * 5 + t) xs)]) := by
  refine Trip.of Try.func43 (by kernel_rfl) fun E w L hs => ?_
  simp only [List.cons_append, List.nil_append] at hs
  have h' := h
  obtain ⟨h1, h2, h3, h5, h6⟩ := h'
  have hk : f * 5 + t < 25 := by omega
  have c1 := QLen_is xb dcs room f t A K X h4 h
  have hL := qLoad dcs room A K X f t hk
  have hS := qStore dcs room A K X f t hk
  have hs := (hs.perm (List.Perm.swap _ _ _)).takeOut (f * 5 + t) hk
  rw [hX] at c1 hL hs
  obtain ⟨a, ha⟩ : ∃ a, a = A (f * 5 + t) := ⟨_, rfl⟩
  rw [← ha] at hs hL
  simp only [List.length_cons] at c1 hL
  refine To.run 11 ?_
  refine To.one (One.call 3 [2] [0, 1] (g := 52) (args := [Value.pointer (some { block := xb, off := 0 }), Value.int IntKind.i64 (↑f : Int), Value.int IntKind.i64 (↑t : Int)]) (by kernel_rfl) hs (c1) (by decide) rfl ?_)
  rintro _ _ w1 ⟨rfl, rfl⟩ hs1
  simp only [pickAll, List.filterMap_cons, List.filterMap_nil, List.getElem?_cons_zero, List.getElem?_cons_succ, List.cons_append, List.nil_append, List.drop_succ_cons, List.drop_zero] at hs1
  clear hs
  refine To.run 11 ?_
  refine To.one (One.ixaA (f) (2 + (f) * 5) (t := 121) (b := xb) (off := 2) (n := 5) (sz := 5) (kd := IntKind.i64) (i := (↑f : Int)) (by kernel_rfl) (by kernel_rfl) (rfl) (by omega) (by omega) ?_)
  refine To.one (One.ixaA (t) (2 + f * 5 + (t)) (t := 120) (b := xb) (off := 2 + f * 5) (n := 5) (sz := 1) (kd := IntKind.i64) (i := (↑t : Int)) (by kernel_rfl) (by kernel_rfl) (rfl) (by omega) (by omega) ?_)
  refine To.one (One.load 0 (t := 42) (off := 2 + f * 5 + t) (v := Value.slice a (xs.length + 1) (K (f * 5 + t))) hs1 rfl (by kernel_rfl) hL ?_)
  obtain ⟨b1, o1, rfl⟩ := Sat.segAddr hs1 1 rfl (by first | omega | (simp; done) | (simp; omega))
  refine To.one (One.ixa (0) (o1 + (0)) (t := 42) (b := b1) (off := o1) (len := xs.length + 1) (cap := K (f * 5 + t)) (e := 9) (sz := 1) (kd := IntKind.i64) (i := 0) (by kernel_rfl) (by kernel_rfl) (rfl) (by first | omega | (simp; done) | (simp; omega)) (by omega) ?_)
  refine To.one (One.loadSeg 1 (0) (t := 9) (b := b1) (off := o1) (u := x) hs1 rfl (by kernel_rfl) (by first | rfl | omega) (rfl) (by kernel_rfl) ?_)
  refine To.run 3 ?_
  refine To.draw [] 17 hs1 (by kernel_rfl) (by kernel_rfl) (by kernel_rfl) fun w2 hs2 => ?_
  clear hs1
  have hb1 := Sat.holds hs2 [] rfl
  refine Reg.pures [0, 1, 2, 3, 4, 5, 6, 7, 12, 13] (fuel' := 7) hb1 rfl (by kernel_rfl) ?_
  refine Reg.val 8 hb1 (by kernel_rfl) (by kernel_rfl) (fun w' hw' => Val.ixaA (f) (2 + (f) * 5) (t := 121) (b := xb) (off := 2) (n := 5) (sz := 5) (kd := IntKind.i64) (i := (↑f : Int)) (by kernel_rfl) (by kernel_rfl) (rfl) (by omega) (by omega)) ?_
  refine Reg.val 9 hb1 (by kernel_rfl) (by kernel_rfl) (fun w' hw' => Val.ixaA (t) (2 + f * 5 + (t)) (t := 120) (b := xb) (off := 2 + f * 5) (n := 5) (sz := 1) (kd := IntKind.i64) (i := (↑t : Int)) (by kernel_rfl) (by kernel_rfl) (rfl) (by omega) (by omega)) ?_
  refine Reg.val 14 hb1 (by kernel_rfl) (by kernel_rfl) (fun w' hw' => Val.ixaA (f) (2 + (f) * 5) (t := 121) (b := xb) (off := 2) (n := 5) (sz := 5) (kd := IntKind.i64) (i := (↑f : Int)) (by kernel_rfl) (by kernel_rfl) (rfl) (by omega) (by omega)) ?_
  refine Reg.step 10 (by kernel_rfl) (One.load 0 (t := 42) (off := 2 + f * 5 + t) (v := Value.slice (some { block := b1, off := o1 }) (xs.length + 1) (K (f * 5 + t))) hs2 rfl (by kernel_rfl) hL ?_)
  have hb2 := Sat.holds hs2 [] (B := []) rfl
  clear hb1
  refine ⟨hb2, ?_⟩
  refine Reg.step 11 (by kernel_rfl) (One.slSeg 1 (1) (xs.length + 1) (xs) (lo := (some (Value.int IntKind.i64 1))) (hi' := none) (t := 42) (e := 9) (cap := K (f * 5 + t)) (n := xs.length + 1) (a := some { block := b1, off := o1 }) (xs := x :: xs) hs2 rfl (by kernel_rfl) (by first | rfl | (simp; done)) (by kernel_rfl) (fun v h => ⟨_, _, (Option.some.inj h).symm, rfl⟩) (fun h => by cases h) (fun v h => by cases h) (fun _ => rfl) (by first | omega | (simp; done) | (simp; omega)) (by first | omega | (simp; done) | (simp; omega)) (by first | rfl | (simp; done)) fun a1 hs1 => ?_)
  simp only [List.set_cons_zero, List.set_cons_succ] at hs1
  clear hs2
  have hb1 := Sat.holds hs1 [] (B := []) rfl
  clear hb2
  refine ⟨hb1, ?_⟩
  refine Reg.step 15 (by kernel_rfl) (One.ixaA (t) (2 + f * 5 + (t)) (t := 120) (b := xb) (off := 2 + f * 5) (n := 5) (sz := 1) (kd := IntKind.i64) (i := (↑t : Int)) (by kernel_rfl) (by kernel_rfl) (rfl) (by omega) (by omega) ?_)
  have hb2 := Sat.holds hs1 [] (B := []) rfl
  clear hb1
  refine ⟨hb2, ?_⟩
  refine Reg.step 16 (by kernel_rfl) (One.store 0 (t := 42) (off := 2 + f * 5 + t) (v := Value.slice a1 xs.length (K (f * 5 + t) - 1)) (vs' := (qCells dcs room A K X).set (f * 5 + t + 2) (Value.slice a1 xs.length (K (f * 5 + t) - 1))) hs1 rfl (by kernel_rfl) (hS _ _ _) (by kernel_rfl) fun w3 hs2 => ?_)
  simp only [List.set_cons_zero, List.set_cons_succ] at hs2
  clear hs1
  have hb1 := Sat.holds hs2 [] (B := []) rfl
  clear hb2
  refine ⟨hb1, ?_⟩
  refine Reg.done (by kernel_rfl) ?_
  clear hb1
  refine To.run 6 ?_
  refine To.retv Try.func43 (by kernel_rfl) (v := Value.tuple #[x, Value.bool true]) (by kernel_rfl) ?_
  rw [qCells_set dcs room A K X _ hk] at hs2
  exact ⟨_, _, rfl, ⟨_, _, rfl, rfl⟩, qDone hk hs2⟩

theorem QSend_no (xb : Nat) (dcs room f t : Int) (x : ByteArray) (A : Nat → Option Addr) (K : Nat → Nat) (X : Nat → List Value) (h : ¬ isLane dcs f t) : Trip Try.prog 50 [.pointer (some ⟨xb, 0, none⟩), .int .i64 f, .int .i64 t, .string x] [cel xb 123 (qCells dcs room A K X), segs25 A K X]
    (fun v l => v = .bool false ∧ l = [cel xb 123 (qCells dcs room A K X), segs25 A K X]) := by
  refine Trip.of Try.func50 (by kernel_rfl) fun E w L hs => ?_
  simp only [List.cons_append, List.nil_append] at hs
  refine To.run 6 ?_
  refine To.draw [cel xb 123 (qCells dcs room A K X)] 16 hs (by kernel_rfl) (by kernel_rfl) (by kernel_rfl) fun w1 hs1 => ?_
  clear hs
  have hb1 := Sat.holds hs1 [0] rfl
  refine Reg.pures [0, 1, 2] (fuel' := 13) hb1 rfl (by kernel_rfl) ?_
  refine Reg.step 3 (by kernel_rfl) (One.call 2 [0] [1] (g := 65) (args := [Value.pointer (some { block := xb, off := 0 }), Value.int IntKind.i64 f, Value.int IntKind.i64 t]) (by kernel_rfl) hs1 (Qno (xb) (dcs) (room) (f) (t) (A) (K) (X) (by assumption)) (by decide) rfl ?_)
  rintro _ _ w2 ⟨rfl, rfl⟩ hs2
  simp only [pickAll, List.filterMap_cons, List.filterMap_nil, List.getElem?_cons_zero, List.getElem?_cons_succ, List.cons_append, List.nil_append, List.drop_succ_cons, List.drop_zero] at hs2
  clear hs1
  have hb2 := Sat.holds hs2 [0] (B := [cel xb 123 (qCells dcs room A K X)]) rfl
  clear hb1
  refine ⟨hb2, ?_⟩
  refine Reg.pures [4, 5, 6, 7, 8, 9, 10, 11, 12, 13, 14, 15] (fuel' := 0) hb2 rfl (by kernel_rfl) ?_
  refine Reg.done (by kernel_rfl) ?_
  clear hb2
  refine To.run 5 ?_
  refine To.retv Try.func50 (by kernel_rfl) (v := Value.bool false) (by kernel_rfl) ?_
  exact ⟨_, _, rfl, ⟨rfl, rfl⟩, hs2⟩

theorem QSend_full (xb : Nat) (dcs room : Int) (f t : Nat) (x : ByteArray) (A : Nat → Option Addr) (K : Nat → Nat) (X : Nat → List Value) (h4 : dcs ≤ 4) (h : isLane dcs f t) (hr : room ≤ (X (f * 5 + t)).length) : Trip Try.prog 50 [.pointer (some ⟨xb, 0, none⟩), .int .i64 f, .int .i64 t, .string x] [cel xb 123 (qCells dcs room A K X), segs25 A K X]
    (fun v l => v = .bool false ∧ l = [cel xb 123 (qCells dcs room A K X), segs25 A K X]) := by
  refine Trip.of Try.func50 (by kernel_rfl) fun E w L hs => ?_
  simp only [List.cons_append, List.nil_append] at hs
  have c1 := QLen_is xb dcs room f t A K X h4 h
  refine To.run 6 ?_
  refine To.draw [cel xb 123 (qCells dcs room A K X)] 16 hs (by kernel_rfl) (by kernel_rfl) (by kernel_rfl) fun w1 hs1 => ?_
  clear hs
  have hb1 := Sat.holds hs1 [0] rfl
  refine Reg.pures [0, 1, 2] (fuel' := 13) hb1 rfl (by kernel_rfl) ?_
  refine Reg.step 3 (by kernel_rfl) (One.call 2 [0] [1] (g := 65) (args := [Value.pointer (some { block := xb, off := 0 }), Value.int IntKind.i64 (↑f : Int), Value.int IntKind.i64 (↑t : Int)]) (by kernel_rfl) hs1 (Qis (xb) (dcs) (room) ((↑f : Int)) ((↑t : Int)) (A) (K) (X) (by assumption)) (by decide) rfl ?_)
  rintro _ _ w2 ⟨rfl, rfl⟩ hs2
  simp only [pickAll, List.filterMap_cons, List.filterMap_nil, List.getElem?_cons_zero, List.getElem?_cons_succ, List.cons_append, List.nil_append, List.drop_succ_cons, List.drop_zero] at hs2
  clear hs1
  have hb2 := Sat.holds hs2 [0] (B := [cel xb 123 (qCells dcs room A K X)]) rfl
  clear hb1
  refine ⟨hb2, ?_⟩
  refine Reg.pures [4, 5, 6, 7, 8, 10, 11, 12] (fuel' := 4) hb2 rfl (by kernel_rfl) ?_
  refine Reg.load 13 0 (t := 3) (off := 1) (v := Value.int IntKind.i64 room) hb2 rfl (by kernel_rfl) (by kernel_rfl) (by kernel_rfl) ?_
  refine Reg.step 9 (by kernel_rfl) (One.call 2 [0] [1] (g := 52) (args := [Value.pointer (some { block := xb, off := 0 }), Value.int IntKind.i64 (↑f : Int), Value.int IntKind.i64 (↑t : Int)]) (by kernel_rfl) hs2 (c1) (by decide) rfl ?_)
  rintro _ _ w3 ⟨rfl, rfl⟩ hs1
  simp only [pickAll, List.filterMap_cons, List.filterMap_nil, List.getElem?_cons_zero, List.getElem?_cons_succ, List.cons_append, List.nil_append, List.drop_succ_cons, List.drop_zero] at hs1
  clear hs2
  have hb1 := Sat.holds hs1 [0] (B := [cel xb 123 (qCells dcs room A K X)]) rfl
  clear hb2
  refine ⟨hb1, ?_⟩
  refine Reg.pures [14, 15] (fuel' := 0) hb1 rfl (by kernel_rfl) ?_
  refine Reg.done (by kernel_rfl) ?_
  clear hb1
  refine To.isTrue 24 (t := decide ((↑(X (f * 5 + t)).length : Int) ≥ room)) (by kernel_rfl) (by (simp; omega)) ?_
  refine To.run 5 ?_
  refine To.retv Try.func50 (by kernel_rfl) (v := Value.bool false) (by kernel_rfl) ?_
  exact ⟨_, _, rfl, ⟨rfl, rfl⟩, hs1⟩

theorem QSend_room (xb : Nat) (dcs room : Int) (f t : Nat) (x : ByteArray) (A : Nat → Option Addr) (K : Nat → Nat) (X : Nat → List Value) (h4 : dcs ≤ 4) (h : isLane dcs f t) (ys : List ByteArray) (hX : X (f * 5 + t) = ys.map Value.string) (hr : (ys.length : Int) < room) (hr16 : room ≤ 16) : Trip Try.prog 50 [.pointer (some ⟨xb, 0, none⟩), .int .i64 f, .int .i64 t, .string x] [cel xb 123 (qCells dcs room A K X), segs25 A K X]
    (fun v l => ∃ A' K', v = .bool true ∧ l = [cel xb 123 (qCells dcs room A' K' (putAt X (f * 5 + t) ((ys ++ [x]).map Value.string))), segs25 A' K' (putAt X (f * 5 + t) ((ys ++ [x]).map Value.string))]) := by
  refine Trip.of Try.func50 (by kernel_rfl) fun E w L hs => ?_
  simp only [List.cons_append, List.nil_append] at hs
  have h' := h
  obtain ⟨h1, h2, h3, h5, h6⟩ := h'
  have hk : f * 5 + t < 25 := by omega
  have c1 := QLen_is xb dcs room f t A K X h4 h
  have hL := qLoad dcs room A K X f t hk
  have hS := qStore dcs room A K X f t hk
  have hs := (hs.perm (List.Perm.swap _ _ _)).takeOut (f * 5 + t) hk
  rw [hX] at c1 hL hs
  obtain ⟨a, ha⟩ : ∃ a, a = A (f * 5 + t) := ⟨_, rfl⟩
  rw [← ha] at hs hL
  rw [List.length_map] at c1 hL
  clear hX
  have e1 : (ys ++ [x]).map Value.string = ys.map Value.string ++ [Value.string x] := by rw [List.map_append]; rfl
  rw [e1]
  refine To.run 6 ?_
  refine To.draw [seg a (K (f * 5 + t)) 9 (List.map Value.string ys), cel xb 123 (qCells dcs room A K X)] 16 hs (by kernel_rfl) (by kernel_rfl) (by kernel_rfl) fun w1 hs1 => ?_
  clear hs
  have hb1 := Sat.holds hs1 [0, 2] rfl
  refine Reg.pures [0, 1, 2] (fuel' := 13) hb1 rfl (by kernel_rfl) ?_
  refine Reg.step 3 (by kernel_rfl) (One.call 3 [2] [0, 1] (g := 65) (args := [Value.pointer (some { block := xb, off := 0 }), Value.int IntKind.i64 (↑f : Int), Value.int IntKind.i64 (↑t : Int)]) (by kernel_rfl) hs1 (Qis (xb) (dcs) (room) ((↑f : Int)) ((↑t : Int)) (A) (K) (X) (by assumption)) (by decide) rfl ?_)
  rintro _ _ w2 ⟨rfl, rfl⟩ hs2
  simp only [pickAll, List.filterMap_cons, List.filterMap_nil, List.getElem?_cons_zero, List.getElem?_cons_succ, List.cons_append, List.nil_append, List.drop_succ_cons, List.drop_zero] at hs2
  clear hs1
  have hb2 := Sat.holds hs2 [1, 0] (B := [seg a (K (f * 5 + t)) 9 (List.map Value.string ys), cel xb 123 (qCells dcs room A K X)]) rfl
  clear hb1
  refine ⟨hb2, ?_⟩
  refine Reg.pures [4, 5, 6, 7, 8, 10, 11, 12] (fuel' := 4) hb2 rfl (by kernel_rfl) ?_
  refine Reg.load 13 1 (t := 3) (off := 1) (v := Value.int IntKind.i64 room) hb2 rfl (by kernel_rfl) (by kernel_rfl) (by kernel_rfl) ?_
  refine Reg.step 9 (by kernel_rfl) (One.call 3 [0] [1, 2] (g := 52) (args := [Value.pointer (some { block := xb, off := 0 }), Value.int IntKind.i64 (↑f : Int), Value.int IntKind.i64 (↑t : Int)]) (by kernel_rfl) hs2 (c1) (by decide) rfl ?_)
  rintro _ _ w3 ⟨rfl, rfl⟩ hs1
  simp only [pickAll, List.filterMap_cons, List.filterMap_nil, List.getElem?_cons_zero, List.getElem?_cons_succ, List.cons_append, List.nil_append, List.drop_succ_cons, List.drop_zero] at hs1
  clear hs2
  have hb1 := Sat.holds hs1 [1, 0] (B := [seg a (K (f * 5 + t)) 9 (List.map Value.string ys), cel xb 123 (qCells dcs room A K X)]) rfl
  clear hb2
  refine ⟨hb1, ?_⟩
  refine Reg.pures [14, 15] (fuel' := 0) hb1 rfl (by kernel_rfl) ?_
  refine Reg.done (by kernel_rfl) ?_
  clear hb1
  refine To.isFalse 24 (t := decide ((↑ys.length : Int) ≥ room)) (by kernel_rfl) (by (simp; omega)) ?_
  refine To.run 3 ?_
  refine To.draw [seg a (K (f * 5 + t)) 9 (List.map Value.string ys)] 20 hs1 (by kernel_rfl) (by kernel_rfl) (by kernel_rfl) fun w4 hs2 => ?_
  clear hs1
  have hb1 := Sat.holds hs2 [1] rfl
  refine Reg.pures [0, 1, 2, 3, 4, 5, 6, 7, 12, 15, 16] (fuel' := 9) hb1 rfl (by kernel_rfl) ?_
  refine Reg.val 8 hb1 (by kernel_rfl) (by kernel_rfl) (fun w' hw' => Val.ixaA (f) (2 + (f) * 5) (t := 121) (b := xb) (off := 2) (n := 5) (sz := 5) (kd := IntKind.i64) (i := (↑f : Int)) (by kernel_rfl) (by kernel_rfl) (rfl) (by omega) (by omega)) ?_
  refine Reg.val 9 hb1 (by kernel_rfl) (by kernel_rfl) (fun w' hw' => Val.ixaA (t) (2 + f * 5 + (t)) (t := 120) (b := xb) (off := 2 + f * 5) (n := 5) (sz := 1) (kd := IntKind.i64) (i := (↑t : Int)) (by kernel_rfl) (by kernel_rfl) (rfl) (by omega) (by omega)) ?_
  refine Reg.val 17 hb1 (by kernel_rfl) (by kernel_rfl) (fun w' hw' => Val.ixaA (f) (2 + (f) * 5) (t := 121) (b := xb) (off := 2) (n := 5) (sz := 5) (kd := IntKind.i64) (i := (↑f : Int)) (by kernel_rfl) (by kernel_rfl) (rfl) (by omega) (by omega)) ?_
  refine Reg.step2 10 13 (by kernel_rfl) ?_ ?_
  refine  (One.load 0 (t := 42) (off := 2 + f * 5 + t) (v := Value.slice a ys.length (K (f * 5 + t))) hs2 rfl (by kernel_rfl) hL ?_)
  have hb2 := Sat.holds hs2 [1] (B := [seg a (K (f * 5 + t)) 9 (List.map Value.string ys)]) rfl
  clear hb1
  refine ⟨hb2, ?_⟩
  refine Reg.step2 11 13 (by kernel_rfl) ?_ ?_
  refine  (One.clone 1 (t := 42) (ty := 42) (e := 9) (by_ := 16) (cap := K (f * 5 + t)) (n := ys.length) (a := a) (xs := List.map Value.string ys) hs2 rfl (by kernel_rfl) (by first | rfl | (simp; done)) (by kernel_rfl) (by first | assumption | exact oneCells_int _ _ | exact oneCells_str _ | exact oneCells_bool _ | rfl) (by first | omega | (simp; omega)) (by first | omega | (simp; omega)) fun a1 cap1 w5 hs1 => ?_)
  clear hs2
  have hb1 := Sat.holds hs1 [2] (B := [seg a (K (f * 5 + t)) 9 (List.map Value.string ys)]) rfl
  clear hb2
  refine ⟨hb1, ?_⟩
  refine Reg.step 13 (by kernel_rfl) (One.slit (t := 42) (n := 1) (parts := [(0, Value.string x)]) 9 [Value.string x] hs1 (by kernel_rfl) (by kernel_rfl) fun b1 w6 hs2 => ?_)
  clear hs1
  have hb2 := Sat.holds hs2 [3] (B := [seg a (K (f * 5 + t)) 9 (List.map Value.string ys)]) rfl
  clear hb1
  refine ⟨hb2, ?_⟩
  refine Reg.step 14 (by kernel_rfl) (One.appRow 1 (t := 42) (ty := 42) (e := 9) (by_ := 16) (a := a1) (cap := cap1) (m := 1) (cp := 1) (n := (List.map Value.string ys).length) (xs := List.map Value.string ys) (news := [Value.string x]) (b := b1) (off := 0) hs2 rfl (by kernel_rfl) (by first | rfl | (simp; done)) (by kernel_rfl) (by first | rfl | (simp; done)) (fun j u hj => cell_row hs2 0 rfl hj) (by kernel_rfl) (by first | omega | (simp; omega)) (by first | omega | (simp; omega)) fun a2 cap2 w7 hs1 => ?_)
  simp only [List.set_cons_zero, List.set_cons_succ] at hs1
  clear hs2
  replace hs1 := Sat.selDrop hs1 5 [1, 2, 3, 4] (by decide) (by decide)
  simp only [pickAll, List.filterMap_cons, List.filterMap_nil, List.getElem?_cons_zero, List.getElem?_cons_succ, List.cons_append, List.nil_append, List.drop_succ_cons, List.drop_zero] at hs1
  have hb1 := Sat.holds hs1 [2] (B := [seg a (K (f * 5 + t)) 9 (List.map Value.string ys)]) rfl
  clear hb2
  refine ⟨hb1, ?_⟩
  refine Reg.step 18 (by kernel_rfl) (One.ixaA (t) (2 + f * 5 + (t)) (t := 120) (b := xb) (off := 2 + f * 5) (n := 5) (sz := 1) (kd := IntKind.i64) (i := (↑t : Int)) (by kernel_rfl) (by kernel_rfl) (rfl) (by omega) (by omega) ?_)
  have hb2 := Sat.holds hs1 [2] (B := [seg a (K (f * 5 + t)) 9 (List.map Value.string ys)]) rfl
  clear hb1
  refine ⟨hb2, ?_⟩
  refine Reg.step 19 (by kernel_rfl) (One.store 1 (t := 42) (off := 2 + f * 5 + t) (v := Value.slice a2 (List.map Value.string ys ++ [Value.string x]).length cap2) (vs' := (qCells dcs room A K X).set (f * 5 + t + 2) (Value.slice a2 (List.map Value.string ys ++ [Value.string x]).length cap2)) hs1 rfl (by kernel_rfl) (hS _ _ _) (by kernel_rfl) fun w8 hs2 => ?_)
  simp only [List.set_cons_zero, List.set_cons_succ] at hs2
  clear hs1
  have hb1 := Sat.holds hs2 [2] (B := [seg a (K (f * 5 + t)) 9 (List.map Value.string ys)]) rfl
  clear hb2
  refine ⟨hb1, ?_⟩
  refine Reg.done (by kernel_rfl) ?_
  clear hb1
  rotate_left 1
  refine  (One.slit (t := 42) (n := 1) (parts := [(0, Value.string x)]) 9 [Value.string x] hs2 (by kernel_rfl) (by kernel_rfl) fun b1 w5 hs1 => ?_)
  clear hs2
  have hb1 := Sat.holds hs1 [2] (B := [seg a (K (f * 5 + t)) 9 (List.map Value.string ys)]) rfl
  clear hb2
  refine ⟨hb1, ?_⟩
  refine Reg.step 11 (by kernel_rfl) (One.clone 2 (t := 42) (ty := 42) (e := 9) (by_ := 16) (cap := K (f * 5 + t)) (n := ys.length) (a := a) (xs := List.map Value.string ys) hs1 rfl (by kernel_rfl) (by first | rfl | (simp; done)) (by kernel_rfl) (by first | assumption | exact oneCells_int _ _ | exact oneCells_str _ | exact oneCells_bool _ | rfl) (by first | omega | (simp; omega)) (by first | omega | (simp; omega)) fun a1 cap1 w6 hs2 => ?_)
  clear hs1
  have hb2 := Sat.holds hs2 [3] (B := [seg a (K (f * 5 + t)) 9 (List.map Value.string ys)]) rfl
  clear hb1
  refine ⟨hb2, ?_⟩
  refine Reg.step 14 (by kernel_rfl) (One.appRow 0 (t := 42) (ty := 42) (e := 9) (by_ := 16) (a := a1) (cap := cap1) (m := 1) (cp := 1) (n := (List.map Value.string ys).length) (xs := List.map Value.string ys) (news := [Value.string x]) (b := b1) (off := 0) hs2 rfl (by kernel_rfl) (by first | rfl | (simp; done)) (by kernel_rfl) (by first | rfl | (simp; done)) (fun j u hj => cell_row hs2 1 rfl hj) (by kernel_rfl) (by first | omega | (simp; omega)) (by first | omega | (simp; omega)) fun a2 cap2 w7 hs1 => ?_)
  simp only [List.set_cons_zero, List.set_cons_succ] at hs1
  clear hs2
  replace hs1 := Sat.selDrop hs1 5 [0, 2, 3, 4] (by decide) (by decide)
  simp only [pickAll, List.filterMap_cons, List.filterMap_nil, List.getElem?_cons_zero, List.getElem?_cons_succ, List.cons_append, List.nil_append, List.drop_succ_cons, List.drop_zero] at hs1
  have hb1 := Sat.holds hs1 [2] (B := [seg a (K (f * 5 + t)) 9 (List.map Value.string ys)]) rfl
  clear hb2
  refine ⟨hb1, ?_⟩
  refine Reg.step 18 (by kernel_rfl) (One.ixaA (t) (2 + f * 5 + (t)) (t := 120) (b := xb) (off := 2 + f * 5) (n := 5) (sz := 1) (kd := IntKind.i64) (i := (↑t : Int)) (by kernel_rfl) (by kernel_rfl) (rfl) (by omega) (by omega) ?_)
  have hb2 := Sat.holds hs1 [2] (B := [seg a (K (f * 5 + t)) 9 (List.map Value.string ys)]) rfl
  clear hb1
  refine ⟨hb2, ?_⟩
  refine Reg.step 19 (by kernel_rfl) (One.store 1 (t := 42) (off := 2 + f * 5 + t) (v := Value.slice a2 (List.map Value.string ys ++ [Value.string x]).length cap2) (vs' := (qCells dcs room A K X).set (f * 5 + t + 2) (Value.slice a2 (List.map Value.string ys ++ [Value.string x]).length cap2)) hs1 rfl (by kernel_rfl) (hS _ _ _) (by kernel_rfl) fun w8 hs2 => ?_)
  simp only [List.set_cons_zero, List.set_cons_succ] at hs2
  clear hs1
  have hb1 := Sat.holds hs2 [2] (B := [seg a (K (f * 5 + t)) 9 (List.map Value.string ys)]) rfl
  clear hb2
  refine ⟨hb1, ?_⟩
  refine Reg.done (by kernel_rfl) ?_
  clear hb1
  rotate_right 1
  rotate_left 2
  refine  (One.slit (t := 42) (n := 1) (parts := [(0, Value.string x)]) 9 [Value.string x] hs2 (by kernel_rfl) (by kernel_rfl) fun b1 w5 hs1 => ?_)
  clear hs2
  have hb2 := Sat.holds hs1 [2] (B := [seg a (K (f * 5 + t)) 9 (List.map Value.string ys)]) rfl
  clear hb1
  refine ⟨hb2, ?_⟩
  refine Reg.step 10 (by kernel_rfl) (One.load 1 (t := 42) (off := 2 + f * 5 + t) (v := Value.slice a ys.length (K (f * 5 + t))) hs1 rfl (by kernel_rfl) hL ?_)
  have hb1 := Sat.holds hs1 [2] (B := [seg a (K (f * 5 + t)) 9 (List.map Value.string ys)]) rfl
  clear hb2
  refine ⟨hb1, ?_⟩
  refine Reg.step 11 (by kernel_rfl) (One.clone 2 (t := 42) (ty := 42) (e := 9) (by_ := 16) (cap := K (f * 5 + t)) (n := ys.length) (a := a) (xs := List.map Value.string ys) hs1 rfl (by kernel_rfl) (by first | rfl | (simp; done)) (by kernel_rfl) (by first | assumption | exact oneCells_int _ _ | exact oneCells_str _ | exact oneCells_bool _ | rfl) (by first | omega | (simp; omega)) (by first | omega | (simp; omega)) fun a1 cap1 w6 hs2 => ?_)
  clear hs1
  have hb2 := Sat.holds hs2 [3] (B := [seg a (K (f * 5 + t)) 9 (List.map Value.string ys)]) rfl
  clear hb1
  refine ⟨hb2, ?_⟩
  refine Reg.step 14 (by kernel_rfl) (One.appRow 0 (t := 42) (ty := 42) (e := 9) (by_ := 16) (a := a1) (cap := cap1) (m := 1) (cp := 1) (n := (List.map Value.string ys).length) (xs := List.map Value.string ys) (news := [Value.string x]) (b := b1) (off := 0) hs2 rfl (by kernel_rfl) (by first | rfl | (simp; done)) (by kernel_rfl) (by first | rfl | (simp; done)) (fun j u hj => cell_row hs2 1 rfl hj) (by kernel_rfl) (by first | omega | (simp; omega)) (by first | omega | (simp; omega)) fun a2 cap2 w7 hs1 => ?_)
  simp only [List.set_cons_zero, List.set_cons_succ] at hs1
  clear hs2
  replace hs1 := Sat.selDrop hs1 5 [0, 2, 3, 4] (by decide) (by decide)
  simp only [pickAll, List.filterMap_cons, List.filterMap_nil, List.getElem?_cons_zero, List.getElem?_cons_succ, List.cons_append, List.nil_append, List.drop_succ_cons, List.drop_zero] at hs1
  have hb1 := Sat.holds hs1 [2] (B := [seg a (K (f * 5 + t)) 9 (List.map Value.string ys)]) rfl
  clear hb2
  refine ⟨hb1, ?_⟩
  refine Reg.step 18 (by kernel_rfl) (One.ixaA (t) (2 + f * 5 + (t)) (t := 120) (b := xb) (off := 2 + f * 5) (n := 5) (sz := 1) (kd := IntKind.i64) (i := (↑t : Int)) (by kernel_rfl) (by kernel_rfl) (rfl) (by omega) (by omega) ?_)
  have hb2 := Sat.holds hs1 [2] (B := [seg a (K (f * 5 + t)) 9 (List.map Value.string ys)]) rfl
  clear hb1
  refine ⟨hb2, ?_⟩
  refine Reg.step 19 (by kernel_rfl) (One.store 1 (t := 42) (off := 2 + f * 5 + t) (v := Value.slice a2 (List.map Value.string ys ++ [Value.string x]).length cap2) (vs' := (qCells dcs room A K X).set (f * 5 + t + 2) (Value.slice a2 (List.map Value.string ys ++ [Value.string x]).length cap2)) hs1 rfl (by kernel_rfl) (hS _ _ _) (by kernel_rfl) fun w8 hs2 => ?_)
  simp only [List.set_cons_zero, List.set_cons_succ] at hs2
  clear hs1
  have hb1 := Sat.holds hs2 [2] (B := [seg a (K (f * 5 + t)) 9 (List.map Value.string ys)]) rfl
  clear hb2
  refine ⟨hb1, ?_⟩
  refine Reg.done (by kernel_rfl) ?_
  clear hb1
  rotate_right 2
  refine To.run 4 ?_
  refine To.retv Try.func50 (by kernel_rfl) (v := Value.bool true) (by kernel_rfl) ?_
  · rw [qCells_set dcs room A K X _ hk] at hs2
    have h3 := (hs2.rowSeg 0 rfl).selDrop 4 [1, 0, 3] (by decide) (by decide)
    exact ⟨_, _, rfl, ⟨_, _, rfl, rfl⟩, qDone hk h3⟩
  · refine To.run 4 ?_
    refine To.retv Try.func50 (by kernel_rfl) (v := Value.bool true) (by kernel_rfl) ?_
    rw [qCells_set dcs room A K X _ hk] at hs2
    have h3 := (hs2.rowSeg 0 rfl).selDrop 4 [1, 0, 3] (by decide) (by decide)
    exact ⟨_, _, rfl, ⟨_, _, rfl, rfl⟩, qDone hk h3⟩
  · refine To.run 4 ?_
    refine To.retv Try.func50 (by kernel_rfl) (v := Value.bool true) (by kernel_rfl) ?_
    rw [qCells_set dcs room A K X _ hk] at hs2
    have h3 := (hs2.rowSeg 0 rfl).selDrop 4 [1, 0, 3] (by decide) (by decide)
    exact ⟨_, _, rfl, ⟨_, _, rfl, rfl⟩, qDone hk h3⟩
theorem _root_.Go.Sx.Trip.imp {P : Program} {g : FuncId} {args : List Value} {pre pre' : List Res} {post : Value → List Res → Prop} (h : Trip P g args pre post) (hp : ∀ E w L, Sat E w (pre' ++ L) → Sat E w (pre ++ L)) : Trip P g args pre' post :=
  fun E w L hs => h E w L (hp E w L hs)

theorem qBack {xb : Nat} {dcs room : Int} {f t : Nat} (A : Nat → Option Addr) (K : Nat → Nat) (X : Nat → List Value) (hk : f * 5 + t < 25) {a : Option Addr} {ys : List Value} (ha : a = A (f * 5 + t)) (hX : X (f * 5 + t) = ys) (E w : World) (L : List Res)
    (h : Sat E w ([cel xb 123 (qCells dcs room A K X), seg a (K (f * 5 + t)) 9 ys, hole 25 (fun i => seg (A i) (K i) 9 (X i)) (f * 5 + t)] ++ L)) : Sat E w ([cel xb 123 (qCells dcs room A K X), segs25 A K X] ++ L) := by
  have := qDone hk h
  rw [ha, ← hX] at this
  have e1 : putAt A (f * 5 + t) (A (f * 5 + t)) = A := by funext j; unfold putAt; split <;> simp_all
  have e2 : putAt K (f * 5 + t) (K (f * 5 + t)) = K := by funext j; unfold putAt; split <;> simp_all
  have e3 : putAt X (f * 5 + t) (X (f * 5 + t)) = X := by funext j; unfold putAt; split <;> simp_all
  rwa [e1, e2, e3] at this

theorem QCopy_no (xb : Nat) (dcs room f t : Int) (A : Nat → Option Addr) (K : Nat → Nat) (X : Nat → List Value) (h : ¬ isLane dcs f t) : Trip Try.prog 46 [.pointer (some ⟨xb, 0, none⟩), .int .i64 f, .int .i64 t] [cel xb 123 (qCells dcs room A K X), segs25 A K X]
    (fun v l => v = .bool false ∧ l = [cel xb 123 (qCells dcs room A K X), segs25 A K X]) := by
  refine Trip.of Try.func46 (by kernel_rfl) fun E w L hs => ?_
  simp only [List.cons_append, List.nil_append] at hs
  refine To.run 9 ?_
  refine To.one (One.call 2 [0] [1] (g := 52) (args := [Value.pointer (some { block := xb, off := 0 }), Value.int IntKind.i64 f, Value.int IntKind.i64 t]) (by kernel_rfl) hs (QLen_no (xb) (dcs) (room) (f) (t) (A) (K) (X) (by assumption)) (by decide) rfl ?_)
  rintro _ _ w1 ⟨rfl, rfl⟩ hs1
  simp only [pickAll, List.filterMap_cons, List.filterMap_nil, List.getElem?_cons_zero, List.getElem?_cons_succ, List.cons_append, List.nil_append, List.drop_succ_cons, List.drop_zero] at hs1
  clear hs
  refine To.run 19 ?_
  refine To.retv Try.func46 (by kernel_rfl) (v := Value.bool false) (by kernel_rfl) ?_
  exact ⟨_, _, rfl, ⟨rfl, rfl⟩, hs1⟩

theorem QCopy_none (xb : Nat) (dcs room : Int) (f t : Nat) (A : Nat → Option Addr) (K : Nat → Nat) (X : Nat → List Value) (h4 : dcs ≤ 4) (h : isLane dcs f t) (hX : X (f * 5 + t) = []) : Trip Try.prog 46 [.pointer (some ⟨xb, 0, none⟩), .int .i64 f, .int .i64 t] [cel xb 123 (qCells dcs room A K X), segs25 A K X]
    (fun v l => v = .bool false ∧ l = [cel xb 123 (qCells dcs room A K X), segs25 A K X]) := by
  refine Trip.of Try.func46 (by kernel_rfl) fun E w L hs => ?_
  simp only [List.cons_append, List.nil_append] at hs
  have c1 := QLen_is xb dcs room f t A K X h4 h
  rw [hX] at c1
  refine To.run 9 ?_
  refine To.one (One.call 2 [0] [1] (g := 52) (args := [Value.pointer (some { block := xb, off := 0 }), Value.int IntKind.i64 (↑f : Int), Value.int IntKind.i64 (↑t : Int)]) (by kernel_rfl) hs (c1) (by decide) rfl ?_)
  rintro _ _ w1 ⟨rfl, rfl⟩ hs1
  simp only [pickAll, List.filterMap_cons, List.filterMap_nil, List.getElem?_cons_zero, List.getElem?_cons_succ, List.cons_append, List.nil_append, List.drop_succ_cons, List.drop_zero] at hs1
  clear hs
  refine To.run 19 ?_
  refine To.retv Try.func46 (by kernel_rfl) (v := Value.bool false) (by kernel_rfl) ?_
  exact ⟨_, _, rfl, ⟨rfl, rfl⟩, hs1⟩

theorem QCopy_full (xb : Nat) (dcs room : Int) (f t : Nat) (A : Nat → Option Addr) (K : Nat → Nat) (X : Nat → List Value) (h4 : dcs ≤ 4) (h : isLane dcs f t) (z : ByteArray) (zs : List ByteArray) (hX : X (f * 5 + t) = (z :: zs).map Value.string) (hr : room ≤ (zs.length : Int) + 1) (hz : zs.length ≤ 1000) : Trip Try.prog 46 [.pointer (some ⟨xb, 0, none⟩), .int .i64 f, .int .i64 t] [cel xb 123 (qCells dcs room A K X), segs25 A K X]
    (fun v l => v = .bool false ∧ l = [cel xb 123 (qCells dcs room A K X), segs25 A K X]) := by
  refine Trip.of Try.func46 (by kernel_rfl) fun E w L hs => ?_
  simp only [List.cons_append, List.nil_append] at hs
  have h' := h
  obtain ⟨h1, h2, h3, h5, h6⟩ := h'
  have hk : f * 5 + t < 25 := by omega
  have c1 := QLen_is xb dcs room f t A K X h4 h
  have hL := qLoad dcs room A K X f t hk
  have hs := (hs.perm (List.Perm.swap _ _ _)).takeOut (f * 5 + t) hk
  obtain ⟨a, ha⟩ : ∃ a, a = A (f * 5 + t) := ⟨_, rfl⟩
  have c2 := (QSend_full xb dcs room f t z A K X h4 h (by rw [hX]; simp; omega)).imp (qBack A K X hk ha hX)
  rw [hX] at c1 hL hs
  rw [← ha] at hs hL
  rw [List.map_cons] at c1 c2 hL hs
  rw [List.length_cons, List.length_map] at c1 hL
  clear hX
  refine To.run 9 ?_
  refine To.one (One.call 3 [2] [0, 1] (g := 52) (args := [Value.pointer (some { block := xb, off := 0 }), Value.int IntKind.i64 (↑f : Int), Value.int IntKind.i64 (↑t : Int)]) (by kernel_rfl) hs (c1) (by decide) rfl ?_)
  rintro _ _ w1 ⟨rfl, rfl⟩ hs1
  simp only [pickAll, List.filterMap_cons, List.filterMap_nil, List.getElem?_cons_zero, List.getElem?_cons_succ, List.cons_append, List.nil_append, List.drop_succ_cons, List.drop_zero] at hs1
  clear hs
  refine To.run 2 ?_
  refine To.isTrue 12 (t := decide ((↑(zs.length + 1) : Int) > 0)) (by kernel_rfl) (by simp) ?_
  refine To.run 8 ?_
  refine To.one (One.ixaA (f) (2 + (f) * 5) (t := 121) (b := xb) (off := 2) (n := 5) (sz := 5) (kd := IntKind.i64) (i := (↑f : Int)) (by kernel_rfl) (by kernel_rfl) (rfl) (by omega) (by omega) ?_)
  refine To.one (One.ixaA (t) (2 + f * 5 + (t)) (t := 120) (b := xb) (off := 2 + f * 5) (n := 5) (sz := 1) (kd := IntKind.i64) (i := (↑t : Int)) (by kernel_rfl) (by kernel_rfl) (rfl) (by omega) (by omega) ?_)
  refine To.one (One.load 0 (t := 42) (off := 2 + f * 5 + t) (v := Value.slice a (zs.length + 1) (K (f * 5 + t))) hs1 rfl (by kernel_rfl) hL ?_)
  obtain ⟨b1, o1, rfl⟩ := Sat.segAddr hs1 1 rfl (by first | omega | (simp; done) | (simp; omega))
  refine To.one (One.ixa (0) (o1 + (0)) (t := 42) (b := b1) (off := o1) (len := zs.length + 1) (cap := K (f * 5 + t)) (e := 9) (sz := 1) (kd := IntKind.i64) (i := 0) (by kernel_rfl) (by kernel_rfl) (rfl) (by first | omega | (simp; done) | (simp; omega)) (by omega) ?_)
  refine To.one (One.loadSeg 1 (0) (t := 9) (b := b1) (off := o1) (u := Value.string z) hs1 rfl (by kernel_rfl) (by first | rfl | omega) (rfl) (by kernel_rfl) ?_)
  refine To.one (One.call 3 [0, 1, 2] [] (g := 50) (args := [Value.pointer (some { block := xb, off := 0 }), Value.int IntKind.i64 (↑f : Int), Value.int IntKind.i64 (↑t : Int), Value.string z]) (by kernel_rfl) hs1 (c2) (by decide) rfl ?_)
  rintro _ _ w2 ⟨rfl, rfl⟩ hs2
  simp only [pickAll, List.filterMap_cons, List.filterMap_nil, List.getElem?_cons_zero, List.getElem?_cons_succ, List.cons_append, List.nil_append, List.drop_succ_cons, List.drop_zero] at hs2
  clear hs1
  refine To.run 3 ?_
  refine To.retv Try.func46 (by kernel_rfl) (v := Value.bool false) (by kernel_rfl) ?_
  exact ⟨_, _, rfl, ⟨rfl, rfl⟩, hs2⟩

theorem QCopy_ok (xb : Nat) (dcs room : Int) (f t : Nat) (A : Nat → Option Addr) (K : Nat → Nat) (X : Nat → List Value) (h4 : dcs ≤ 4) (h : isLane dcs f t) (z : ByteArray) (zs : List ByteArray) (hX : X (f * 5 + t) = (z :: zs).map Value.string) (hr : (zs.length : Int) + 1 < room) (hr16 : room ≤ 16) : Trip Try.prog 46 [.pointer (some ⟨xb, 0, none⟩), .int .i64 f, .int .i64 t] [cel xb 123 (qCells dcs room A K X), segs25 A K X]
    (fun v l => ∃ A' K', v = .bool true ∧ l = [cel xb 123 (qCells dcs room A' K' (putAt X (f * 5 + t) ((z :: zs ++ [z]).map Value.string))), segs25 A' K' (putAt X (f * 5 + t) ((z :: zs ++ [z]).map Value.string))]) := by
  refine Trip.of Try.func46 (by kernel_rfl) fun E w L hs => ?_
  simp only [List.cons_append, List.nil_append] at hs
  have h' := h
  obtain ⟨h1, h2, h3, h5, h6⟩ := h'
  have hk : f * 5 + t < 25 := by omega
  have c1 := QLen_is xb dcs room f t A K X h4 h
  have hL := qLoad dcs room A K X f t hk
  have hs := (hs.perm (List.Perm.swap _ _ _)).takeOut (f * 5 + t) hk
  obtain ⟨a, ha⟩ : ∃ a, a = A (f * 5 + t) := ⟨_, rfl⟩
  have c2 := (QSend_room xb dcs room f t z A K X h4 h (z :: zs) hX (by simp; omega) hr16).imp (qBack A K X hk ha hX)
  rw [hX] at c1 hL hs
  rw [← ha] at hs hL
  rw [List.map_cons] at c1 c2 hL hs
  rw [List.length_cons, List.length_map] at c1 hL
  clear hX
  refine To.run 9 ?_
  refine To.one (One.call 3 [2] [0, 1] (g := 52) (args := [Value.pointer (some { block := xb, off := 0 }), Value.int IntKind.i64 (↑f : Int), Value.int IntKind.i64 (↑t : Int)]) (by kernel_rfl) hs (c1) (by decide) rfl ?_)
  rintro _ _ w1 ⟨rfl, rfl⟩ hs1
  simp only [pickAll, List.filterMap_cons, List.filterMap_nil, List.getElem?_cons_zero, List.getElem?_cons_succ, List.cons_append, List.nil_append, List.drop_succ_cons, List.drop_zero] at hs1
  clear hs
  refine To.run 2 ?_
  refine To.isTrue 12 (t := decide ((↑(zs.length + 1) : Int) > 0)) (by kernel_rfl) (by simp) ?_
  refine To.run 8 ?_
  refine To.one (One.ixaA (f) (2 + (f) * 5) (t := 121) (b := xb) (off := 2) (n := 5) (sz := 5) (kd := IntKind.i64) (i := (↑f : Int)) (by kernel_rfl) (by kernel_rfl) (rfl) (by omega) (by omega) ?_)
  refine To.one (One.ixaA (t) (2 + f * 5 + (t)) (t := 120) (b := xb) (off := 2 + f * 5) (n := 5) (sz := 1) (kd := IntKind.i64) (i := (↑t : Int)) (by kernel_rfl) (by kernel_rfl) (rfl) (by omega) (by omega) ?_)
  refine To.one (One.load 0 (t := 42) (off := 2 + f * 5 + t) (v := Value.slice a (zs.length + 1) (K (f * 5 + t))) hs1 rfl (by kernel_rfl) hL ?_)
  obtain ⟨b1, o1, rfl⟩ := Sat.segAddr hs1 1 rfl (by first | omega | (simp; done) | (simp; omega))
  refine To.one (One.ixa (0) (o1 + (0)) (t := 42) (b := b1) (off := o1) (len := zs.length + 1) (cap := K (f * 5 + t)) (e := 9) (sz := 1) (kd := IntKind.i64) (i := 0) (by kernel_rfl) (by kernel_rfl) (rfl) (by first | omega | (simp; done) | (simp; omega)) (by omega) ?_)
  refine To.one (One.loadSeg 1 (0) (t := 9) (b := b1) (off := o1) (u := Value.string z) hs1 rfl (by kernel_rfl) (by first | rfl | omega) (rfl) (by kernel_rfl) ?_)
  refine To.one (One.call 3 [0, 1, 2] [] (g := 50) (args := [Value.pointer (some { block := xb, off := 0 }), Value.int IntKind.i64 (↑f : Int), Value.int IntKind.i64 (↑t : Int), Value.string z]) (by kernel_rfl) hs1 (c2) (by decide) rfl ?_)
  rintro _ _ w2 ⟨A', K', rfl, rfl⟩ hs2
  simp only [pickAll, List.filterMap_cons, List.filterMap_nil, List.getElem?_cons_zero, List.getElem?_cons_succ, List.cons_append, List.nil_append, List.drop_succ_cons, List.drop_zero] at hs2
  clear hs1
  refine To.run 3 ?_
  refine To.retv Try.func46 (by kernel_rfl) (v := Value.bool true) (by kernel_rfl) ?_
  exact ⟨_, _, rfl, ⟨_, _, rfl, rfl⟩, hs2⟩

theorem QTurn_no (xb : Nat) (dcs room f t : Int) (A : Nat → Option Addr) (K : Nat → Nat) (X : Nat → List Value) (h : ¬ isLane dcs f t) : Trip Try.prog 48 [.pointer (some ⟨xb, 0, none⟩), .int .i64 f, .int .i64 t] [cel xb 123 (qCells dcs room A K X), segs25 A K X]
    (fun v l => v = .bool false ∧ l = [cel xb 123 (qCells dcs room A K X), segs25 A K X]) := by
  refine Trip.of Try.func48 (by kernel_rfl) fun E w L hs => ?_
  simp only [List.cons_append, List.nil_append] at hs
  refine To.run 9 ?_
  refine To.one (One.call 2 [0, 1] [] (g := 43) (args := [Value.pointer (some { block := xb, off := 0 }), Value.int IntKind.i64 f, Value.int IntKind.i64 t]) (by kernel_rfl) hs (QTake_no (xb) (dcs) (room) (f) (t) (A) (K) (X) (by assumption)) (by decide) rfl ?_)
  rintro _ _ w1 ⟨rfl, rfl⟩ hs1
  simp only [pickAll, List.filterMap_cons, List.filterMap_nil, List.getElem?_cons_zero, List.getElem?_cons_succ, List.cons_append, List.nil_append, List.drop_succ_cons, List.drop_zero] at hs1
  clear hs
  refine To.run 18 ?_
  refine To.retv Try.func48 (by kernel_rfl) (v := Value.bool false) (by kernel_rfl) ?_
  exact ⟨_, _, rfl, ⟨rfl, rfl⟩, hs1⟩

theorem QTurn_none (xb : Nat) (dcs room : Int) (f t : Nat) (A : Nat → Option Addr) (K : Nat → Nat) (X : Nat → List Value) (h4 : dcs ≤ 4) (h : isLane dcs f t) (hX : X (f * 5 + t) = []) : Trip Try.prog 48 [.pointer (some ⟨xb, 0, none⟩), .int .i64 f, .int .i64 t] [cel xb 123 (qCells dcs room A K X), segs25 A K X]
    (fun v l => v = .bool false ∧ l = [cel xb 123 (qCells dcs room A K X), segs25 A K X]) := by
  refine Trip.of Try.func48 (by kernel_rfl) fun E w L hs => ?_
  simp only [List.cons_append, List.nil_append] at hs
  have c1 := QTake_none xb dcs room f t A K X h4 h hX
  refine To.run 9 ?_
  refine To.one (One.call 2 [0, 1] [] (g := 43) (args := [Value.pointer (some { block := xb, off := 0 }), Value.int IntKind.i64 (↑f : Int), Value.int IntKind.i64 (↑t : Int)]) (by kernel_rfl) hs (c1) (by decide) rfl ?_)
  rintro _ _ w1 ⟨rfl, rfl⟩ hs1
  simp only [pickAll, List.filterMap_cons, List.filterMap_nil, List.getElem?_cons_zero, List.getElem?_cons_succ, List.cons_append, List.nil_append, List.drop_succ_cons, List.drop_zero] at hs1
  clear hs
  refine To.run 18 ?_
  refine To.retv Try.func48 (by kernel_rfl) (v := Value.bool false) (by kernel_rfl) ?_
  exact ⟨_, _, rfl, ⟨rfl, rfl⟩, hs1⟩

theorem QTurn_some (xb : Nat) (dcs room : Int) (f t : Nat) (A : Nat → Option Addr) (K : Nat → Nat) (X : Nat → List Value) (h4 : dcs ≤ 4) (h : isLane dcs f t) (z : ByteArray) (zs : List ByteArray) (hX : X (f * 5 + t) = (z :: zs).map Value.string) (hr : (zs.length : Int) < room) (hr16 : room ≤ 16) : Trip Try.prog 48 [.pointer (some ⟨xb, 0, none⟩), .int .i64 f, .int .i64 t] [cel xb 123 (qCells dcs room A K X), segs25 A K X]
    (fun v l => ∃ A' K', v = .bool true ∧ l = [cel xb 123 (qCells dcs room A' K' (putAt X (f * 5 + t) ((zs ++ [z]).map Value.string))), segs25 A' K' (putAt X (f * 5 + t) ((zs ++ [z]).map Value.string))]) := by
  refine Trip.of Try.func48 (by kernel_rfl) fun E w L hs => ?_
  simp only [List.cons_append, List.nil_append] at hs
  have c1 := QTake_some xb dcs room f t A K X h4 h (.string z) (zs.map Value.string) hX (by simp; omega)
  have c2 := fun A K => QSend_room xb dcs room f t z A K (putAt X (f * 5 + t) (zs.map Value.string)) h4 h zs (putAt_same _ _ _) hr hr16
  simp only [putAt_putAt] at c2
  clear hX
  refine To.run 9 ?_
  refine To.one (One.call 2 [0, 1] [] (g := 43) (args := [Value.pointer (some { block := xb, off := 0 }), Value.int IntKind.i64 (↑f : Int), Value.int IntKind.i64 (↑t : Int)]) (by kernel_rfl) hs (c1) (by decide) rfl ?_)
  rintro _ _ w1 ⟨A', K', rfl, rfl⟩ hs1
  simp only [pickAll, List.filterMap_cons, List.filterMap_nil, List.getElem?_cons_zero, List.getElem?_cons_succ, List.cons_append, List.nil_append, List.drop_succ_cons, List.drop_zero] at hs1
  clear hs
  refine To.run 14 ?_
  refine To.one (One.call 2 [0, 1] [] (g := 50) (args := [Value.pointer (some { block := xb, off := 0 }), Value.int IntKind.i64 (↑f : Int), Value.int IntKind.i64 (↑t : Int), Value.string z]) (by kernel_rfl) hs1 (c2 (A') (K')) (by decide) rfl ?_)
  rintro _ _ w2 ⟨A'1, K'1, rfl, rfl⟩ hs2
  simp only [pickAll, List.filterMap_cons, List.filterMap_nil, List.getElem?_cons_zero, List.getElem?_cons_succ, List.cons_append, List.nil_append, List.drop_succ_cons, List.drop_zero] at hs2
  clear hs1
  refine To.run 3 ?_
  refine To.retv Try.func48 (by kernel_rfl) (v := Value.bool true) (by kernel_rfl) ?_
  exact ⟨_, _, rfl, ⟨_, _, rfl, rfl⟩, hs2⟩
theorem QLen_at (xb : Nat) (dcs room : Int) (f t : Nat) (A : Nat → Option Addr) (K : Nat → Nat) (X : Nat → List Value) (h4 : dcs ≤ 4) : Trip Try.prog 52 [.pointer (some ⟨xb, 0, none⟩), .int .i64 f, .int .i64 t] [cel xb 123 (qCells dcs room A K X)]
    (fun v l => v = .int .i64 (lenAt dcs X f t) ∧ l = [cel xb 123 (qCells dcs room A K X)]) := by
  unfold lenAt
  split
  · rename_i h
    have := QLen_is xb dcs room f t A K X h4 h
    rwa [show f * 5 + t = ln f t by unfold ln; omega] at this
  · rename_i h
    exact QLen_no xb dcs room f t A K X h

theorem sum_skip (dcs : Int) (X : Nat → List Value) (p : Nat) : ∀ m, (∀ n, p ≤ n → n < p + m → ¬ isLane dcs (n / 5 : Nat) (n % 5 : Nat)) → sumTo dcs X (p + m) = sumTo dcs X p
  | 0, _ => rfl
  | m + 1, h => by
    rw [← Nat.add_assoc, sumTo, sum_skip dcs X p m (fun n h1 h2 => h n h1 (by omega))]
    unfold lenAt
    rw [if_neg (h (p + m) (by omega) (by omega))]
    rfl

theorem QAll_in (E : World) (L : List Res) (Q : Ending → World → Prop) (xb d : Nat) (room : Int) (A : Nat → Option Addr) (K : Nat → Nat) (X : Nat → List Value) (hd1 : 1 ≤ d) (hd : d ≤ 4) (hX : ∀ i, (X i).length ≤ 1000) (f : Nat) (hf1 : 1 ≤ f) (hf : f ≤ d)
    (fin : ∀ (j : Nat → Value) (w : World), Sat E w (cel xb 123 (qCells d room A K X) :: L) → To Try.prog 54 (Cfg.here Try.f54 4 j [(0, .pointer (some ⟨xb, 0, none⟩)), (3, .int .i64 (sumTo d X ((f + 1) * 5 + 1) : Nat)), (4, .int .i64 (f + 1))]) w Q) :
    ∀ (m t : Nat) (j : Nat → Value) (w : World), 1 ≤ t → t + m = d + 1 → Sat E w (cel xb 123 (qCells d room A K X) :: L) → To Try.prog 54 (Cfg.here Try.f54 9 j [(0, .pointer (some ⟨xb, 0, none⟩)), (3, .int .i64 (sumTo d X (f * 5 + t) : Nat)), (4, .int .i64 f), (5, .int .i64 t)]) w Q := by
  intro m
  induction m with
  | zero =>
    intro t j w ht1 ht hs
    obtain rfl : t = d + 1 := by omega
    have e1 : sumTo d X ((f + 1) * 5 + 1) = sumTo d X (f * 5 + (d + 1)) := by
      have := sum_skip d X (f * 5 + (d + 1)) (5 - d) (fun n h1 h2 hl => by obtain ⟨a1, a2, a3, a4, a5⟩ := hl; omega)
      rwa [show f * 5 + (d + 1) + (5 - d) = (f + 1) * 5 + 1 by omega] at this
    rw [e1] at fin
    clear e1
    refine To.run 7 ?_
    refine To.one (One.load 0 (t := 3) (off := 0) (v := Value.int IntKind.i64 (↑d : Int)) hs rfl (by kernel_rfl) (by kernel_rfl) ?_)
    refine To.run 2 ?_
    refine To.isFalse 19 (t := decide ((↑(d + 1) : Int) ≤ (↑d : Int))) (by kernel_rfl) (by (simp; omega)) ?_
    refine To.run 6 ?_
    refine To.known 13 (v := .int .i64 (IntKind.i64.wrap ((↑f : Int) + 1))) (.int .i64 ((↑f : Int) + 1)) (by kernel_rfl) (by rw [wrap_i64 (by omega) (by omega)]) ?_
    refine To.run 2 ?_
    refine To.run 1 ?_
    refine To.at (fn := Try.f54) (n := 4) (l := [(0, Value.pointer (some { block := xb, off := 0 })), (3, Value.int IntKind.i64 (↑(sumTo (↑d : Int) X (f * 5 + (d + 1))) : Int)), (4, Value.int IntKind.i64 ((↑f : Int) + 1))]) (by kernel_rfl) fun j => ?_
    exact fin _ _ hs
  | succ m ih =>
    intro t j w ht1 ht hs
    have b1 := lenAt_le (dcs := d) hX f t
    have b2 := sumTo_le (dcs := d) hX (f * 5 + t)
    have b3 : sumTo d X (f * 5 + t) ≤ 30000 := by omega
    have ht5 : t ≤ d := by omega
    have e1 := sumTo_step d X f t (by omega)
    have c1 := QLen_at xb d room f t A K X (by omega)
    clear fin
    refine To.run 7 ?_
    refine To.one (One.load 0 (t := 3) (off := 0) (v := Value.int IntKind.i64 (↑d : Int)) hs rfl (by kernel_rfl) (by kernel_rfl) ?_)
    refine To.run 2 ?_
    refine To.isTrue 19 (t := decide ((↑t : Int) ≤ (↑d : Int))) (by kernel_rfl) (by (simp; omega)) ?_
    refine To.run 9 ?_
    refine To.one (One.call 1 [0] [] (g := 52) (args := [Value.pointer (some { block := xb, off := 0 }), Value.int IntKind.i64 (↑f : Int), Value.int IntKind.i64 (↑t : Int)]) (by kernel_rfl) hs (c1) (by decide) rfl ?_)
    rintro _ _ w1 ⟨rfl, rfl⟩ hs1
    simp only [pickAll, List.filterMap_cons, List.filterMap_nil, List.getElem?_cons_zero, List.getElem?_cons_succ, List.cons_append, List.nil_append, List.drop_succ_cons, List.drop_zero] at hs1
    clear hs
    refine To.run 1 ?_
    refine To.known 27 (v := .int .i64 (IntKind.i64.wrap ((↑(sumTo (↑d : Int) X (f * 5 + t)) : Int) + (↑(lenAt (↑d : Int) X (↑f : Int) (↑t : Int)) : Int)))) (.int .i64 ((↑(sumTo (↑d : Int) X (f * 5 + t)) : Int) + (↑(lenAt (↑d : Int) X (↑f : Int) (↑t : Int)) : Int))) (by kernel_rfl) (by rw [wrap_i64 (by omega) (by omega)]) ?_
    refine To.run 6 ?_
    refine To.known 21 (v := .int .i64 (IntKind.i64.wrap ((↑t : Int) + 1))) (.int .i64 ((↑t : Int) + 1)) (by kernel_rfl) (by rw [wrap_i64 (by omega) (by omega)]) ?_
    refine To.run 2 ?_
    refine To.run 1 ?_
    refine To.at (fn := Try.f54) (n := 9) (l := [(0, Value.pointer (some { block := xb, off := 0 })), (3, Value.int IntKind.i64 ((↑(sumTo (↑d : Int) X (f * 5 + t)) : Int) + (↑(lenAt (↑d : Int) X (↑f : Int) (↑t : Int)) : Int))), (4, Value.int IntKind.i64 (↑f : Int)), (5, Value.int IntKind.i64 ((↑t : Int) + 1))]) (by kernel_rfl) fun j => ?_
    have e2 : ((sumTo d X (f * 5 + t) : Nat) : Int) + (lenAt d X f t : Nat) = ((sumTo d X (f * 5 + (t + 1)) : Nat) : Int) := by rw [e1]; rfl
    rw [e2]
    exact ih (t + 1) _ _ (by omega) (by omega) hs1

theorem QAll_out (E : World) (L : List Res) (Q : Ending → World → Prop) (xb d : Nat) (room : Int) (A : Nat → Option Addr) (K : Nat → Nat) (X : Nat → List Value) (hd1 : 1 ≤ d) (hd : d ≤ 4) (hX : ∀ i, (X i).length ≤ 1000)
    (fin : ∀ (w : World), Sat E w (cel xb 123 (qCells d room A K X) :: L) → Q (.returned (.int .i64 (sumTo d X 25 : Nat))) w) :
    ∀ (m f : Nat) (j : Nat → Value) (w : World), 1 ≤ f → f + m = d + 1 → Sat E w (cel xb 123 (qCells d room A K X) :: L) → To Try.prog 54 (Cfg.here Try.f54 4 j [(0, .pointer (some ⟨xb, 0, none⟩)), (3, .int .i64 (sumTo d X (f * 5 + 1) : Nat)), (4, .int .i64 f)]) w Q := by
  intro m
  induction m with
  | zero =>
    intro f j w hf1 hf hs
    obtain rfl : f = d + 1 := by omega
    have e1 : sumTo d X 25 = sumTo d X ((d + 1) * 5 + 1) := by
      by_cases h4 : d = 4
      · subst h4
        have := sum_skip 4 X 25 1 (fun n h1 h2 hl => by obtain ⟨a1, a2, a3, a4, a5⟩ := hl; omega)
        exact this.symm
      · have := sum_skip d X ((d + 1) * 5 + 1) (25 - ((d + 1) * 5 + 1)) (fun n h1 h2 hl => by obtain ⟨a1, a2, a3, a4, a5⟩ := hl; omega)
        rwa [show (d + 1) * 5 + 1 + (25 - ((d + 1) * 5 + 1)) = 25 by omega] at this
    rw [e1] at fin
    clear e1
    refine To.run 7 ?_
    refine To.one (One.load 0 (t := 3) (off := 0) (v := Value.int IntKind.i64 (↑d : Int)) hs rfl (by kernel_rfl) (by kernel_rfl) ?_)
    refine To.run 2 ?_
    refine To.isFalse 11 (t := decide ((↑(d + 1) : Int) ≤ (↑d : Int))) (by kernel_rfl) (by (simp; omega)) ?_
    refine To.run 7 ?_
    refine To.retv Try.func54 (by kernel_rfl) (v := Value.int IntKind.i64 (↑(sumTo (↑d : Int) X ((d + 1) * 5 + 1)) : Int)) (by kernel_rfl) ?_
    exact fin _ hs
  | succ m ih =>
    intro f j w hf1 hf hs
    have hfd : f ≤ d := by omega
    refine To.run 7 ?_
    refine To.one (One.load 0 (t := 3) (off := 0) (v := Value.int IntKind.i64 (↑d : Int)) hs rfl (by kernel_rfl) (by kernel_rfl) ?_)
    refine To.run 2 ?_
    refine To.isTrue 11 (t := decide ((↑f : Int) ≤ (↑d : Int))) (by kernel_rfl) (by (simp; omega)) ?_
    refine To.run 9 ?_
    refine To.run 1 ?_
    refine To.at (fn := Try.f54) (n := 9) (l := [(0, Value.pointer (some { block := xb, off := 0 })), (3, Value.int IntKind.i64 (↑(sumTo (↑d : Int) X (f * 5 + 1)) : Int)), (4, Value.int IntKind.i64 (↑f : Int)), (5, Value.int IntKind.i64 1)]) (by kernel_rfl) fun j => ?_
    exact QAll_in E L Q xb d room A K X hd1 hd hX f hf1 hfd (fun j w hs => ih (f + 1) j w (by omega) (by omega) hs) d 1 _ _ (by omega) (by omega) hs

theorem QAll (xb d : Nat) (room : Int) (A : Nat → Option Addr) (K : Nat → Nat) (X : Nat → List Value) (hd1 : 1 ≤ d) (hd : d ≤ 4) (hX : ∀ i, (X i).length ≤ 1000) : Trip Try.prog 54 [.pointer (some ⟨xb, 0, none⟩)] [cel xb 123 (qCells d room A K X)]
    (fun v l => v = .int .i64 (sumTo d X 25 : Nat) ∧ l = [cel xb 123 (qCells d room A K X)]) := by
  refine Trip.of Try.func54 (by kernel_rfl) fun E w L hs => ?_
  simp only [List.cons_append, List.nil_append] at hs
  refine To.run 14 ?_
  refine To.run 1 ?_
  refine To.at (fn := Try.f54) (n := 4) (l := [(0, Value.pointer (some { block := xb, off := 0 })), (3, Value.int IntKind.i64 0), (4, Value.int IntKind.i64 1)]) (by kernel_rfl) fun j => ?_
  have h := QAll_out E L (Fins E L fun v l => v = .int .i64 (sumTo d X 25 : Nat) ∧ l = [cel xb 123 (qCells d room A K X)]) xb d room A K X hd1 hd hX (fun w hs => ⟨_, _, rfl, ⟨rfl, rfl⟩, hs⟩) d 1 j w (by omega) (by omega) hs
  rw [show sumTo d X (1 * 5 + 1) = 0 from (sum_skip d X 0 6 (fun n h1 h2 hl => by obtain ⟨a1, a2, a3, a4, a5⟩ := hl; omega))] at h
  exact h
end Go.Proofs.Ythojpcfaaiefhaa
