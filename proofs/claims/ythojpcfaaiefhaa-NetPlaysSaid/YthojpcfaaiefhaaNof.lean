import Derived.Test.YthojpcfaaiefhaaProg
import Derived.Test.YthojpcfaaiefhaaSxLaw
import Derived.Test.YthojpcfaaiefhaaLane
import Derived.Test.YthojpcfaaiefhaaSxStars
set_option linter.unusedSimpArgs false
set_option linter.unusedVariables false
namespace Go.Proofs.Ythojpcfaaiefhaa
open Go Go.Sx
set_option linter.unusedSimpArgs false
set_option maxHeartbeats 0

/-- Is there a lane? -/
def isLane (dcs f t : Int) : Prop := 1 ≤ f ∧ f ≤ dcs ∧ 1 ≤ t ∧ t ≤ dcs ∧ f ≠ t
/-- Its number. -/
def ln (f t : Int) : Nat := (f * 5 + t).toNat

/-- A net's block. -/
def netCells (dcs : Int) (B : Nat → Nat) : List Value :=
  [.int .i64 dcs, .pointer (some ⟨B 0, 0, none⟩), .pointer (some ⟨B 1, 0, none⟩), .pointer (some ⟨B 2, 0, none⟩), .pointer (some ⟨B 3, 0, none⟩), .pointer (some ⟨B 4, 0, none⟩), .pointer (some ⟨B 5, 0, none⟩), .pointer (some ⟨B 6, 0, none⟩), .pointer (some ⟨B 7, 0, none⟩), .pointer (some ⟨B 8, 0, none⟩), .pointer (some ⟨B 9, 0, none⟩), .pointer (some ⟨B 10, 0, none⟩), .pointer (some ⟨B 11, 0, none⟩), .pointer (some ⟨B 12, 0, none⟩), .pointer (some ⟨B 13, 0, none⟩), .pointer (some ⟨B 14, 0, none⟩), .pointer (some ⟨B 15, 0, none⟩), .pointer (some ⟨B 16, 0, none⟩), .pointer (some ⟨B 17, 0, none⟩), .pointer (some ⟨B 18, 0, none⟩), .pointer (some ⟨B 19, 0, none⟩), .pointer (some ⟨B 20, 0, none⟩), .pointer (some ⟨B 21, 0, none⟩), .pointer (some ⟨B 22, 0, none⟩), .pointer (some ⟨B 23, 0, none⟩), .pointer (some ⟨B 24, 0, none⟩)]

theorem ofS_is (nb : Nat) (dcs f t : Int) (B : Nat → Nat) (h4 : dcs ≤ 4) (h : isLane dcs f t) : Trip Try.prog 63 [.pointer (some ⟨nb, 0, none⟩), .int .i64 f, .int .i64 t] [cel nb 119 (netCells dcs B)] (fun v l => v = .pointer (some ⟨B (ln f t), 0, none⟩) ∧ l = [cel nb 119 (netCells dcs B)]) := by
  obtain ⟨h1, h2, h3, h5, h6⟩ := h
  obtain hf | hf | hf | hf : f = 1 ∨ f = 2 ∨ f = 3 ∨ f = 4 := by omega
  · subst hf
    obtain ht | ht | ht | ht : t = 1 ∨ t = 2 ∨ t = 3 ∨ t = 4 := by omega
    · exact absurd ht.symm h6
    · subst ht
      refine Trip.of Try.func63 (by kernel_rfl) fun E w L hs => ?_
      simp only [List.cons_append, List.nil_append] at hs
      refine To.run 14 ?_
      refine To.one (One.load 0 (t := 3) (off := 0) (v := Value.int IntKind.i64 dcs) hs rfl (by kernel_rfl) (by kernel_rfl) ?_)
      refine To.run 3 ?_
      refine To.isFalse 17 (t := decide (1 > dcs)) (by kernel_rfl) (by (simp; omega)) ?_
      refine To.run 8 ?_
      refine To.one (One.load 0 (t := 3) (off := 0) (v := Value.int IntKind.i64 dcs) hs rfl (by kernel_rfl) (by kernel_rfl) ?_)
      refine To.run 3 ?_
      refine To.isFalse 29 (t := decide (2 > dcs)) (by kernel_rfl) (by (simp; omega)) ?_
      refine To.run 16 ?_
      refine To.one (One.load 0 (t := 43) (off := 8) (v := Value.pointer (some { block := B 7, off := 0 })) hs rfl (by kernel_rfl) (by kernel_rfl) ?_)
      refine To.run 2 ?_
      refine To.retv Try.func63 (by kernel_rfl) (v := Value.pointer (some { block := B 7, off := 0 })) (by kernel_rfl) ?_
      exact ⟨_, _, rfl, ⟨rfl, rfl⟩, hs⟩
    · subst ht
      refine Trip.of Try.func63 (by kernel_rfl) fun E w L hs => ?_
      simp only [List.cons_append, List.nil_append] at hs
      refine To.run 14 ?_
      refine To.one (One.load 0 (t := 3) (off := 0) (v := Value.int IntKind.i64 dcs) hs rfl (by kernel_rfl) (by kernel_rfl) ?_)
      refine To.run 3 ?_
      refine To.isFalse 17 (t := decide (1 > dcs)) (by kernel_rfl) (by (simp; omega)) ?_
      refine To.run 8 ?_
      refine To.one (One.load 0 (t := 3) (off := 0) (v := Value.int IntKind.i64 dcs) hs rfl (by kernel_rfl) (by kernel_rfl) ?_)
      refine To.run 3 ?_
      refine To.isFalse 29 (t := decide (3 > dcs)) (by kernel_rfl) (by (simp; omega)) ?_
      refine To.run 16 ?_
      refine To.one (One.load 0 (t := 43) (off := 9) (v := Value.pointer (some { block := B 8, off := 0 })) hs rfl (by kernel_rfl) (by kernel_rfl) ?_)
      refine To.run 2 ?_
      refine To.retv Try.func63 (by kernel_rfl) (v := Value.pointer (some { block := B 8, off := 0 })) (by kernel_rfl) ?_
      exact ⟨_, _, rfl, ⟨rfl, rfl⟩, hs⟩
    · subst ht
      refine Trip.of Try.func63 (by kernel_rfl) fun E w L hs => ?_
      simp only [List.cons_append, List.nil_append] at hs
      refine To.run 14 ?_
      refine To.one (One.load 0 (t := 3) (off := 0) (v := Value.int IntKind.i64 dcs) hs rfl (by kernel_rfl) (by kernel_rfl) ?_)
      refine To.run 3 ?_
      refine To.isFalse 17 (t := decide (1 > dcs)) (by kernel_rfl) (by (simp; omega)) ?_
      refine To.run 8 ?_
      refine To.one (One.load 0 (t := 3) (off := 0) (v := Value.int IntKind.i64 dcs) hs rfl (by kernel_rfl) (by kernel_rfl) ?_)
      refine To.run 3 ?_
      refine To.isFalse 29 (t := decide (4 > dcs)) (by kernel_rfl) (by (simp; omega)) ?_
      refine To.run 16 ?_
      refine To.one (One.load 0 (t := 43) (off := 10) (v := Value.pointer (some { block := B 9, off := 0 })) hs rfl (by kernel_rfl) (by kernel_rfl) ?_)
      refine To.run 2 ?_
      refine To.retv Try.func63 (by kernel_rfl) (v := Value.pointer (some { block := B 9, off := 0 })) (by kernel_rfl) ?_
      exact ⟨_, _, rfl, ⟨rfl, rfl⟩, hs⟩
  · subst hf
    obtain ht | ht | ht | ht : t = 1 ∨ t = 2 ∨ t = 3 ∨ t = 4 := by omega
    · subst ht
      refine Trip.of Try.func63 (by kernel_rfl) fun E w L hs => ?_
      simp only [List.cons_append, List.nil_append] at hs
      refine To.run 14 ?_
      refine To.one (One.load 0 (t := 3) (off := 0) (v := Value.int IntKind.i64 dcs) hs rfl (by kernel_rfl) (by kernel_rfl) ?_)
      refine To.run 3 ?_
      refine To.isFalse 17 (t := decide (2 > dcs)) (by kernel_rfl) (by (simp; omega)) ?_
      refine To.run 8 ?_
      refine To.one (One.load 0 (t := 3) (off := 0) (v := Value.int IntKind.i64 dcs) hs rfl (by kernel_rfl) (by kernel_rfl) ?_)
      refine To.run 3 ?_
      refine To.isFalse 29 (t := decide (1 > dcs)) (by kernel_rfl) (by (simp; omega)) ?_
      refine To.run 16 ?_
      refine To.one (One.load 0 (t := 43) (off := 12) (v := Value.pointer (some { block := B 11, off := 0 })) hs rfl (by kernel_rfl) (by kernel_rfl) ?_)
      refine To.run 2 ?_
      refine To.retv Try.func63 (by kernel_rfl) (v := Value.pointer (some { block := B 11, off := 0 })) (by kernel_rfl) ?_
      exact ⟨_, _, rfl, ⟨rfl, rfl⟩, hs⟩
    · exact absurd ht.symm h6
    · subst ht
      refine Trip.of Try.func63 (by kernel_rfl) fun E w L hs => ?_
      simp only [List.cons_append, List.nil_append] at hs
      refine To.run 14 ?_
      refine To.one (One.load 0 (t := 3) (off := 0) (v := Value.int IntKind.i64 dcs) hs rfl (by kernel_rfl) (by kernel_rfl) ?_)
      refine To.run 3 ?_
      refine To.isFalse 17 (t := decide (2 > dcs)) (by kernel_rfl) (by (simp; omega)) ?_
      refine To.run 8 ?_
      refine To.one (One.load 0 (t := 3) (off := 0) (v := Value.int IntKind.i64 dcs) hs rfl (by kernel_rfl) (by kernel_rfl) ?_)
      refine To.run 3 ?_
      refine To.isFalse 29 (t := decide (3 > dcs)) (by kernel_rfl) (by (simp; omega)) ?_
      refine To.run 16 ?_
      refine To.one (One.load 0 (t := 43) (off := 14) (v := Value.pointer (some { block := B 13, off := 0 })) hs rfl (by kernel_rfl) (by kernel_rfl) ?_)
      refine To.run 2 ?_
      refine To.retv Try.func63 (by kernel_rfl) (v := Value.pointer (some { block := B 13, off := 0 })) (by kernel_rfl) ?_
      exact ⟨_, _, rfl, ⟨rfl, rfl⟩, hs⟩
    · subst ht
      refine Trip.of Try.func63 (by kernel_rfl) fun E w L hs => ?_
      simp only [List.cons_append, List.nil_append] at hs
      refine To.run 14 ?_
      refine To.one (One.load 0 (t := 3) (off := 0) (v := Value.int IntKind.i64 dcs) hs rfl (by kernel_rfl) (by kernel_rfl) ?_)
      refine To.run 3 ?_
      refine To.isFalse 17 (t := decide (2 > dcs)) (by kernel_rfl) (by (simp; omega)) ?_
      refine To.run 8 ?_
      refine To.one (One.load 0 (t := 3) (off := 0) (v := Value.int IntKind.i64 dcs) hs rfl (by kernel_rfl) (by kernel_rfl) ?_)
      refine To.run 3 ?_
      refine To.isFalse 29 (t := decide (4 > dcs)) (by kernel_rfl) (by (simp; omega)) ?_
      refine To.run 16 ?_
      refine To.one (One.load 0 (t := 43) (off := 15) (v := Value.pointer (some { block := B 14, off := 0 })) hs rfl (by kernel_rfl) (by kernel_rfl) ?_)
      refine To.run 2 ?_
      refine To.retv Try.func63 (by kernel_rfl) (v := Value.pointer (some { block := B 14, off := 0 })) (by kernel_rfl) ?_
      exact ⟨_, _, rfl, ⟨rfl, rfl⟩, hs⟩
  · subst hf
    obtain ht | ht | ht | ht : t = 1 ∨ t = 2 ∨ t = 3 ∨ t = 4 := by omega
    · subst ht
      refine Trip.of Try.func63 (by kernel_rfl) fun E w L hs => ?_
      simp only [List.cons_append, List.nil_append] at hs
      refine To.run 14 ?_
      refine To.one (One.load 0 (t := 3) (off := 0) (v := Value.int IntKind.i64 dcs) hs rfl (by kernel_rfl) (by kernel_rfl) ?_)
      refine To.run 3 ?_
      refine To.isFalse 17 (t := decide (3 > dcs)) (by kernel_rfl) (by (simp; omega)) ?_
      refine To.run 8 ?_
      refine To.one (One.load 0 (t := 3) (off := 0) (v := Value.int IntKind.i64 dcs) hs rfl (by kernel_rfl) (by kernel_rfl) ?_)
      refine To.run 3 ?_
      refine To.isFalse 29 (t := decide (1 > dcs)) (by kernel_rfl) (by (simp; omega)) ?_
      refine To.run 16 ?_
      refine To.one (One.load 0 (t := 43) (off := 17) (v := Value.pointer (some { block := B 16, off := 0 })) hs rfl (by kernel_rfl) (by kernel_rfl) ?_)
      refine To.run 2 ?_
      refine To.retv Try.func63 (by kernel_rfl) (v := Value.pointer (some { block := B 16, off := 0 })) (by kernel_rfl) ?_
      exact ⟨_, _, rfl, ⟨rfl, rfl⟩, hs⟩
    · subst ht
      refine Trip.of Try.func63 (by kernel_rfl) fun E w L hs => ?_
      simp only [List.cons_append, List.nil_append] at hs
      refine To.run 14 ?_
      refine To.one (One.load 0 (t := 3) (off := 0) (v := Value.int IntKind.i64 dcs) hs rfl (by kernel_rfl) (by kernel_rfl) ?_)
      refine To.run 3 ?_
      refine To.isFalse 17 (t := decide (3 > dcs)) (by kernel_rfl) (by (simp; omega)) ?_
      refine To.run 8 ?_
      refine To.one (One.load 0 (t := 3) (off := 0) (v := Value.int IntKind.i64 dcs) hs rfl (by kernel_rfl) (by kernel_rfl) ?_)
      refine To.run 3 ?_
      refine To.isFalse 29 (t := decide (2 > dcs)) (by kernel_rfl) (by (simp; omega)) ?_
      refine To.run 16 ?_
      refine To.one (One.load 0 (t := 43) (off := 18) (v := Value.pointer (some { block := B 17, off := 0 })) hs rfl (by kernel_rfl) (by kernel_rfl) ?_)
      refine To.run 2 ?_
      refine To.retv Try.func63 (by kernel_rfl) (v := Value.pointer (some { block := B 17, off := 0 })) (by kernel_rfl) ?_
      exact ⟨_, _, rfl, ⟨rfl, rfl⟩, hs⟩
    · exact absurd ht.symm h6
    · subst ht
      refine Trip.of Try.func63 (by kernel_rfl) fun E w L hs => ?_
      simp only [List.cons_append, List.nil_append] at hs
      refine To.run 14 ?_
      refine To.one (One.load 0 (t := 3) (off := 0) (v := Value.int IntKind.i64 dcs) hs rfl (by kernel_rfl) (by kernel_rfl) ?_)
      refine To.run 3 ?_
      refine To.isFalse 17 (t := decide (3 > dcs)) (by kernel_rfl) (by (simp; omega)) ?_
      refine To.run 8 ?_
      refine To.one (One.load 0 (t := 3) (off := 0) (v := Value.int IntKind.i64 dcs) hs rfl (by kernel_rfl) (by kernel_rfl) ?_)
      refine To.run 3 ?_
      refine To.isFalse 29 (t := decide (4 > dcs)) (by kernel_rfl) (by (simp; omega)) ?_
      refine To.run 16 ?_
      refine To.one (One.load 0 (t := 43) (off := 20) (v := Value.pointer (some { block := B 19, off := 0 })) hs rfl (by kernel_rfl) (by kernel_rfl) ?_)
      refine To.run 2 ?_
      refine To.retv Try.func63 (by kernel_rfl) (v := Value.pointer (some { block := B 19, off := 0 })) (by kernel_rfl) ?_
      exact ⟨_, _, rfl, ⟨rfl, rfl⟩, hs⟩
  · subst hf
    obtain ht | ht | ht | ht : t = 1 ∨ t = 2 ∨ t = 3 ∨ t = 4 := by omega
    · subst ht
      refine Trip.of Try.func63 (by kernel_rfl) fun E w L hs => ?_
      simp only [List.cons_append, List.nil_append] at hs
      refine To.run 14 ?_
      refine To.one (One.load 0 (t := 3) (off := 0) (v := Value.int IntKind.i64 dcs) hs rfl (by kernel_rfl) (by kernel_rfl) ?_)
      refine To.run 3 ?_
      refine To.isFalse 17 (t := decide (4 > dcs)) (by kernel_rfl) (by (simp; omega)) ?_
      refine To.run 8 ?_
      refine To.one (One.load 0 (t := 3) (off := 0) (v := Value.int IntKind.i64 dcs) hs rfl (by kernel_rfl) (by kernel_rfl) ?_)
      refine To.run 3 ?_
      refine To.isFalse 29 (t := decide (1 > dcs)) (by kernel_rfl) (by (simp; omega)) ?_
      refine To.run 16 ?_
      refine To.one (One.load 0 (t := 43) (off := 22) (v := Value.pointer (some { block := B 21, off := 0 })) hs rfl (by kernel_rfl) (by kernel_rfl) ?_)
      refine To.run 2 ?_
      refine To.retv Try.func63 (by kernel_rfl) (v := Value.pointer (some { block := B 21, off := 0 })) (by kernel_rfl) ?_
      exact ⟨_, _, rfl, ⟨rfl, rfl⟩, hs⟩
    · subst ht
      refine Trip.of Try.func63 (by kernel_rfl) fun E w L hs => ?_
      simp only [List.cons_append, List.nil_append] at hs
      refine To.run 14 ?_
      refine To.one (One.load 0 (t := 3) (off := 0) (v := Value.int IntKind.i64 dcs) hs rfl (by kernel_rfl) (by kernel_rfl) ?_)
      refine To.run 3 ?_
      refine To.isFalse 17 (t := decide (4 > dcs)) (by kernel_rfl) (by (simp; omega)) ?_
      refine To.run 8 ?_
      refine To.one (One.load 0 (t := 3) (off := 0) (v := Value.int IntKind.i64 dcs) hs rfl (by kernel_rfl) (by kernel_rfl) ?_)
      refine To.run 3 ?_
      refine To.isFalse 29 (t := decide (2 > dcs)) (by kernel_rfl) (by (simp; omega)) ?_
      refine To.run 16 ?_
      refine To.one (One.load 0 (t := 43) (off := 23) (v := Value.pointer (some { block := B 22, off := 0 })) hs rfl (by kernel_rfl) (by kernel_rfl) ?_)
      refine To.run 2 ?_
      refine To.retv Try.func63 (by kernel_rfl) (v := Value.pointer (some { block := B 22, off := 0 })) (by kernel_rfl) ?_
      exact ⟨_, _, rfl, ⟨rfl, rfl⟩, hs⟩
    · subst ht
      refine Trip.of Try.func63 (by kernel_rfl) fun E w L hs => ?_
      simp only [List.cons_append, List.nil_append] at hs
      refine To.run 14 ?_
      refine To.one (One.load 0 (t := 3) (off := 0) (v := Value.int IntKind.i64 dcs) hs rfl (by kernel_rfl) (by kernel_rfl) ?_)
      refine To.run 3 ?_
      refine To.isFalse 17 (t := decide (4 > dcs)) (by kernel_rfl) (by (simp; omega)) ?_
      refine To.run 8 ?_
      refine To.one (One.load 0 (t := 3) (off := 0) (v := Value.int IntKind.i64 dcs) hs rfl (by kernel_rfl) (by kernel_rfl) ?_)
      refine To.run 3 ?_
      refine To.isFalse 29 (t := decide (3 > dcs)) (by kernel_rfl) (by (simp; omega)) ?_
      refine To.run 16 ?_
      refine To.one (One.load 0 (t := 43) (off := 24) (v := Value.pointer (some { block := B 23, off := 0 })) hs rfl (by kernel_rfl) (by kernel_rfl) ?_)
      refine To.run 2 ?_
      refine To.retv Try.func63 (by kernel_rfl) (v := Value.pointer (some { block := B 23, off := 0 })) (by kernel_rfl) ?_
      exact ⟨_, _, rfl, ⟨rfl, rfl⟩, hs⟩
    · exact absurd ht.symm h6

theorem ofS_no (nb : Nat) (dcs f t : Int) (B : Nat → Nat) (h : ¬ isLane dcs f t) : Trip Try.prog 63 [.pointer (some ⟨nb, 0, none⟩), .int .i64 f, .int .i64 t] [cel nb 119 (netCells dcs B)] (fun v l => v = .pointer none ∧ l = [cel nb 119 (netCells dcs B)]) := by
  refine Trip.of Try.func63 (by kernel_rfl) fun E w L hs => ?_
  by_cases h1 : f < 1
  · simp only [List.cons_append, List.nil_append] at hs
    refine To.run 10 ?_
    refine To.isTrue 9 (t := decide (f < 1)) (by kernel_rfl) (by (simp; omega)) ?_
    refine To.run 30 ?_
    refine To.retv Try.func63 (by kernel_rfl) (v := Value.pointer none) (by kernel_rfl) ?_
    exact ⟨_, _, rfl, ⟨rfl, rfl⟩, hs⟩
  by_cases h2 : f > dcs
  · simp only [List.cons_append, List.nil_append] at hs
    refine To.run 10 ?_
    refine To.isFalse 9 (t := decide (f < 1)) (by kernel_rfl) (by (simp; omega)) ?_
    refine To.run 4 ?_
    refine To.one (One.load 0 (t := 3) (off := 0) (v := Value.int IntKind.i64 dcs) hs rfl (by kernel_rfl) (by kernel_rfl) ?_)
    refine To.run 3 ?_
    refine To.isTrue 17 (t := decide (f > dcs)) (by kernel_rfl) (by (simp; omega)) ?_
    refine To.run 22 ?_
    refine To.retv Try.func63 (by kernel_rfl) (v := Value.pointer none) (by kernel_rfl) ?_
    exact ⟨_, _, rfl, ⟨rfl, rfl⟩, hs⟩
  by_cases h3 : t < 1
  · simp only [List.cons_append, List.nil_append] at hs
    refine To.run 10 ?_
    refine To.isFalse 9 (t := decide (f < 1)) (by kernel_rfl) (by (simp; omega)) ?_
    refine To.run 4 ?_
    refine To.one (One.load 0 (t := 3) (off := 0) (v := Value.int IntKind.i64 dcs) hs rfl (by kernel_rfl) (by kernel_rfl) ?_)
    refine To.run 3 ?_
    refine To.isFalse 17 (t := decide (f > dcs)) (by kernel_rfl) (by (simp; omega)) ?_
    refine To.run 4 ?_
    refine To.isTrue 21 (t := decide (t < 1)) (by kernel_rfl) (by (simp; omega)) ?_
    refine To.run 18 ?_
    refine To.retv Try.func63 (by kernel_rfl) (v := Value.pointer none) (by kernel_rfl) ?_
    exact ⟨_, _, rfl, ⟨rfl, rfl⟩, hs⟩
  by_cases h4 : t > dcs
  · simp only [List.cons_append, List.nil_append] at hs
    refine To.run 10 ?_
    refine To.isFalse 9 (t := decide (f < 1)) (by kernel_rfl) (by (simp; omega)) ?_
    refine To.run 4 ?_
    refine To.one (One.load 0 (t := 3) (off := 0) (v := Value.int IntKind.i64 dcs) hs rfl (by kernel_rfl) (by kernel_rfl) ?_)
    refine To.run 3 ?_
    refine To.isFalse 17 (t := decide (f > dcs)) (by kernel_rfl) (by (simp; omega)) ?_
    refine To.run 4 ?_
    refine To.isFalse 21 (t := decide (t < 1)) (by kernel_rfl) (by (simp; omega)) ?_
    refine To.run 4 ?_
    refine To.one (One.load 0 (t := 3) (off := 0) (v := Value.int IntKind.i64 dcs) hs rfl (by kernel_rfl) (by kernel_rfl) ?_)
    refine To.run 3 ?_
    refine To.isTrue 29 (t := decide (t > dcs)) (by kernel_rfl) (by (simp; omega)) ?_
    refine To.run 10 ?_
    refine To.retv Try.func63 (by kernel_rfl) (v := Value.pointer none) (by kernel_rfl) ?_
    exact ⟨_, _, rfl, ⟨rfl, rfl⟩, hs⟩
  have h5 : f = t := by
    by_cases e : f = t
    · exact e
    · exact absurd ⟨by omega, by omega, by omega, by omega, e⟩ h
  subst h5
  simp only [List.cons_append, List.nil_append] at hs
  refine To.run 10 ?_
  refine To.isFalse 9 (t := decide (f < 1)) (by kernel_rfl) (by (simp; omega)) ?_
  refine To.run 4 ?_
  refine To.one (One.load 0 (t := 3) (off := 0) (v := Value.int IntKind.i64 dcs) hs rfl (by kernel_rfl) (by kernel_rfl) ?_)
  refine To.run 3 ?_
  refine To.isFalse 17 (t := decide (f > dcs)) (by kernel_rfl) (by (simp; omega)) ?_
  refine To.run 4 ?_
  refine To.isFalse 21 (t := decide (f < 1)) (by kernel_rfl) (by (simp; omega)) ?_
  refine To.run 4 ?_
  refine To.one (One.load 0 (t := 3) (off := 0) (v := Value.int IntKind.i64 dcs) hs rfl (by kernel_rfl) (by kernel_rfl) ?_)
  refine To.run 3 ?_
  refine To.isFalse 29 (t := decide (f > dcs)) (by kernel_rfl) (by (simp; omega)) ?_
  refine To.run 5 ?_
  refine To.isTrue 33 (t := f == f) (by kernel_rfl) (by simp) ?_
  refine To.run 5 ?_
  refine To.retv Try.func63 (by kernel_rfl) (v := Value.pointer none) (by kernel_rfl) ?_
  exact ⟨_, _, rfl, ⟨rfl, rfl⟩, hs⟩

theorem ofI_is (nb : Nat) (dcs f t : Int) (B : Nat → Nat) (h4 : dcs ≤ 4) (h : isLane dcs f t) : Trip Try.prog 66 [.pointer (some ⟨nb, 0, none⟩), .int .i64 f, .int .i64 t] [cel nb 128 (netCells dcs B)] (fun v l => v = .pointer (some ⟨B (ln f t), 0, none⟩) ∧ l = [cel nb 128 (netCells dcs B)]) := by
  obtain ⟨h1, h2, h3, h5, h6⟩ := h
  obtain hf | hf | hf | hf : f = 1 ∨ f = 2 ∨ f = 3 ∨ f = 4 := by omega
  · subst hf
    obtain ht | ht | ht | ht : t = 1 ∨ t = 2 ∨ t = 3 ∨ t = 4 := by omega
    · exact absurd ht.symm h6
    · subst ht
      refine Trip.of Try.func66 (by kernel_rfl) fun E w L hs => ?_
      simp only [List.cons_append, List.nil_append] at hs
      refine To.run 14 ?_
      refine To.one (One.load 0 (t := 3) (off := 0) (v := Value.int IntKind.i64 dcs) hs rfl (by kernel_rfl) (by kernel_rfl) ?_)
      refine To.run 3 ?_
      refine To.isFalse 17 (t := decide (1 > dcs)) (by kernel_rfl) (by (simp; omega)) ?_
      refine To.run 8 ?_
      refine To.one (One.load 0 (t := 3) (off := 0) (v := Value.int IntKind.i64 dcs) hs rfl (by kernel_rfl) (by kernel_rfl) ?_)
      refine To.run 3 ?_
      refine To.isFalse 29 (t := decide (2 > dcs)) (by kernel_rfl) (by (simp; omega)) ?_
      refine To.run 16 ?_
      refine To.one (One.load 0 (t := 25) (off := 8) (v := Value.pointer (some { block := B 7, off := 0 })) hs rfl (by kernel_rfl) (by kernel_rfl) ?_)
      refine To.run 2 ?_
      refine To.retv Try.func66 (by kernel_rfl) (v := Value.pointer (some { block := B 7, off := 0 })) (by kernel_rfl) ?_
      exact ⟨_, _, rfl, ⟨rfl, rfl⟩, hs⟩
    · subst ht
      refine Trip.of Try.func66 (by kernel_rfl) fun E w L hs => ?_
      simp only [List.cons_append, List.nil_append] at hs
      refine To.run 14 ?_
      refine To.one (One.load 0 (t := 3) (off := 0) (v := Value.int IntKind.i64 dcs) hs rfl (by kernel_rfl) (by kernel_rfl) ?_)
      refine To.run 3 ?_
      refine To.isFalse 17 (t := decide (1 > dcs)) (by kernel_rfl) (by (simp; omega)) ?_
      refine To.run 8 ?_
      refine To.one (One.load 0 (t := 3) (off := 0) (v := Value.int IntKind.i64 dcs) hs rfl (by kernel_rfl) (by kernel_rfl) ?_)
      refine To.run 3 ?_
      refine To.isFalse 29 (t := decide (3 > dcs)) (by kernel_rfl) (by (simp; omega)) ?_
      refine To.run 16 ?_
      refine To.one (One.load 0 (t := 25) (off := 9) (v := Value.pointer (some { block := B 8, off := 0 })) hs rfl (by kernel_rfl) (by kernel_rfl) ?_)
      refine To.run 2 ?_
      refine To.retv Try.func66 (by kernel_rfl) (v := Value.pointer (some { block := B 8, off := 0 })) (by kernel_rfl) ?_
      exact ⟨_, _, rfl, ⟨rfl, rfl⟩, hs⟩
    · subst ht
      refine Trip.of Try.func66 (by kernel_rfl) fun E w L hs => ?_
      simp only [List.cons_append, List.nil_append] at hs
      refine To.run 14 ?_
      refine To.one (One.load 0 (t := 3) (off := 0) (v := Value.int IntKind.i64 dcs) hs rfl (by kernel_rfl) (by kernel_rfl) ?_)
      refine To.run 3 ?_
      refine To.isFalse 17 (t := decide (1 > dcs)) (by kernel_rfl) (by (simp; omega)) ?_
      refine To.run 8 ?_
      refine To.one (One.load 0 (t := 3) (off := 0) (v := Value.int IntKind.i64 dcs) hs rfl (by kernel_rfl) (by kernel_rfl) ?_)
      refine To.run 3 ?_
      refine To.isFalse 29 (t := decide (4 > dcs)) (by kernel_rfl) (by (simp; omega)) ?_
      refine To.run 16 ?_
      refine To.one (One.load 0 (t := 25) (off := 10) (v := Value.pointer (some { block := B 9, off := 0 })) hs rfl (by kernel_rfl) (by kernel_rfl) ?_)
      refine To.run 2 ?_
      refine To.retv Try.func66 (by kernel_rfl) (v := Value.pointer (some { block := B 9, off := 0 })) (by kernel_rfl) ?_
      exact ⟨_, _, rfl, ⟨rfl, rfl⟩, hs⟩
  · subst hf
    obtain ht | ht | ht | ht : t = 1 ∨ t = 2 ∨ t = 3 ∨ t = 4 := by omega
    · subst ht
      refine Trip.of Try.func66 (by kernel_rfl) fun E w L hs => ?_
      simp only [List.cons_append, List.nil_append] at hs
      refine To.run 14 ?_
      refine To.one (One.load 0 (t := 3) (off := 0) (v := Value.int IntKind.i64 dcs) hs rfl (by kernel_rfl) (by kernel_rfl) ?_)
      refine To.run 3 ?_
      refine To.isFalse 17 (t := decide (2 > dcs)) (by kernel_rfl) (by (simp; omega)) ?_
      refine To.run 8 ?_
      refine To.one (One.load 0 (t := 3) (off := 0) (v := Value.int IntKind.i64 dcs) hs rfl (by kernel_rfl) (by kernel_rfl) ?_)
      refine To.run 3 ?_
      refine To.isFalse 29 (t := decide (1 > dcs)) (by kernel_rfl) (by (simp; omega)) ?_
      refine To.run 16 ?_
      refine To.one (One.load 0 (t := 25) (off := 12) (v := Value.pointer (some { block := B 11, off := 0 })) hs rfl (by kernel_rfl) (by kernel_rfl) ?_)
      refine To.run 2 ?_
      refine To.retv Try.func66 (by kernel_rfl) (v := Value.pointer (some { block := B 11, off := 0 })) (by kernel_rfl) ?_
      exact ⟨_, _, rfl, ⟨rfl, rfl⟩, hs⟩
    · exact absurd ht.symm h6
    · subst ht
      refine Trip.of Try.func66 (by kernel_rfl) fun E w L hs => ?_
      simp only [List.cons_append, List.nil_append] at hs
      refine To.run 14 ?_
      refine To.one (One.load 0 (t := 3) (off := 0) (v := Value.int IntKind.i64 dcs) hs rfl (by kernel_rfl) (by kernel_rfl) ?_)
      refine To.run 3 ?_
      refine To.isFalse 17 (t := decide (2 > dcs)) (by kernel_rfl) (by (simp; omega)) ?_
      refine To.run 8 ?_
      refine To.one (One.load 0 (t := 3) (off := 0) (v := Value.int IntKind.i64 dcs) hs rfl (by kernel_rfl) (by kernel_rfl) ?_)
      refine To.run 3 ?_
      refine To.isFalse 29 (t := decide (3 > dcs)) (by kernel_rfl) (by (simp; omega)) ?_
      refine To.run 16 ?_
      refine To.one (One.load 0 (t := 25) (off := 14) (v := Value.pointer (some { block := B 13, off := 0 })) hs rfl (by kernel_rfl) (by kernel_rfl) ?_)
      refine To.run 2 ?_
      refine To.retv Try.func66 (by kernel_rfl) (v := Value.pointer (some { block := B 13, off := 0 })) (by kernel_rfl) ?_
      exact ⟨_, _, rfl, ⟨rfl, rfl⟩, hs⟩
    · subst ht
      refine Trip.of Try.func66 (by kernel_rfl) fun E w L hs => ?_
      simp only [List.cons_append, List.nil_append] at hs
      refine To.run 14 ?_
      refine To.one (One.load 0 (t := 3) (off := 0) (v := Value.int IntKind.i64 dcs) hs rfl (by kernel_rfl) (by kernel_rfl) ?_)
      refine To.run 3 ?_
      refine To.isFalse 17 (t := decide (2 > dcs)) (by kernel_rfl) (by (simp; omega)) ?_
      refine To.run 8 ?_
      refine To.one (One.load 0 (t := 3) (off := 0) (v := Value.int IntKind.i64 dcs) hs rfl (by kernel_rfl) (by kernel_rfl) ?_)
      refine To.run 3 ?_
      refine To.isFalse 29 (t := decide (4 > dcs)) (by kernel_rfl) (by (simp; omega)) ?_
      refine To.run 16 ?_
      refine To.one (One.load 0 (t := 25) (off := 15) (v := Value.pointer (some { block := B 14, off := 0 })) hs rfl (by kernel_rfl) (by kernel_rfl) ?_)
      refine To.run 2 ?_
      refine To.retv Try.func66 (by kernel_rfl) (v := Value.pointer (some { block := B 14, off := 0 })) (by kernel_rfl) ?_
      exact ⟨_, _, rfl, ⟨rfl, rfl⟩, hs⟩
  · subst hf
    obtain ht | ht | ht | ht : t = 1 ∨ t = 2 ∨ t = 3 ∨ t = 4 := by omega
    · subst ht
      refine Trip.of Try.func66 (by kernel_rfl) fun E w L hs => ?_
      simp only [List.cons_append, List.nil_append] at hs
      refine To.run 14 ?_
      refine To.one (One.load 0 (t := 3) (off := 0) (v := Value.int IntKind.i64 dcs) hs rfl (by kernel_rfl) (by kernel_rfl) ?_)
      refine To.run 3 ?_
      refine To.isFalse 17 (t := decide (3 > dcs)) (by kernel_rfl) (by (simp; omega)) ?_
      refine To.run 8 ?_
      refine To.one (One.load 0 (t := 3) (off := 0) (v := Value.int IntKind.i64 dcs) hs rfl (by kernel_rfl) (by kernel_rfl) ?_)
      refine To.run 3 ?_
      refine To.isFalse 29 (t := decide (1 > dcs)) (by kernel_rfl) (by (simp; omega)) ?_
      refine To.run 16 ?_
      refine To.one (One.load 0 (t := 25) (off := 17) (v := Value.pointer (some { block := B 16, off := 0 })) hs rfl (by kernel_rfl) (by kernel_rfl) ?_)
      refine To.run 2 ?_
      refine To.retv Try.func66 (by kernel_rfl) (v := Value.pointer (some { block := B 16, off := 0 })) (by kernel_rfl) ?_
      exact ⟨_, _, rfl, ⟨rfl, rfl⟩, hs⟩
    · subst ht
      refine Trip.of Try.func66 (by kernel_rfl) fun E w L hs => ?_
      simp only [List.cons_append, List.nil_append] at hs
      refine To.run 14 ?_
      refine To.one (One.load 0 (t := 3) (off := 0) (v := Value.int IntKind.i64 dcs) hs rfl (by kernel_rfl) (by kernel_rfl) ?_)
      refine To.run 3 ?_
      refine To.isFalse 17 (t := decide (3 > dcs)) (by kernel_rfl) (by (simp; omega)) ?_
      refine To.run 8 ?_
      refine To.one (One.load 0 (t := 3) (off := 0) (v := Value.int IntKind.i64 dcs) hs rfl (by kernel_rfl) (by kernel_rfl) ?_)
      refine To.run 3 ?_
      refine To.isFalse 29 (t := decide (2 > dcs)) (by kernel_rfl) (by (simp; omega)) ?_
      refine To.run 16 ?_
      refine To.one (One.load 0 (t := 25) (off := 18) (v := Value.pointer (some { block := B 17, off := 0 })) hs rfl (by kernel_rfl) (by kernel_rfl) ?_)
      refine To.run 2 ?_
      refine To.retv Try.func66 (by kernel_rfl) (v := Value.pointer (some { block := B 17, off := 0 })) (by kernel_rfl) ?_
      exact ⟨_, _, rfl, ⟨rfl, rfl⟩, hs⟩
    · exact absurd ht.symm h6
    · subst ht
      refine Trip.of Try.func66 (by kernel_rfl) fun E w L hs => ?_
      simp only [List.cons_append, List.nil_append] at hs
      refine To.run 14 ?_
      refine To.one (One.load 0 (t := 3) (off := 0) (v := Value.int IntKind.i64 dcs) hs rfl (by kernel_rfl) (by kernel_rfl) ?_)
      refine To.run 3 ?_
      refine To.isFalse 17 (t := decide (3 > dcs)) (by kernel_rfl) (by (simp; omega)) ?_
      refine To.run 8 ?_
      refine To.one (One.load 0 (t := 3) (off := 0) (v := Value.int IntKind.i64 dcs) hs rfl (by kernel_rfl) (by kernel_rfl) ?_)
      refine To.run 3 ?_
      refine To.isFalse 29 (t := decide (4 > dcs)) (by kernel_rfl) (by (simp; omega)) ?_
      refine To.run 16 ?_
      refine To.one (One.load 0 (t := 25) (off := 20) (v := Value.pointer (some { block := B 19, off := 0 })) hs rfl (by kernel_rfl) (by kernel_rfl) ?_)
      refine To.run 2 ?_
      refine To.retv Try.func66 (by kernel_rfl) (v := Value.pointer (some { block := B 19, off := 0 })) (by kernel_rfl) ?_
      exact ⟨_, _, rfl, ⟨rfl, rfl⟩, hs⟩
  · subst hf
    obtain ht | ht | ht | ht : t = 1 ∨ t = 2 ∨ t = 3 ∨ t = 4 := by omega
    · subst ht
      refine Trip.of Try.func66 (by kernel_rfl) fun E w L hs => ?_
      simp only [List.cons_append, List.nil_append] at hs
      refine To.run 14 ?_
      refine To.one (One.load 0 (t := 3) (off := 0) (v := Value.int IntKind.i64 dcs) hs rfl (by kernel_rfl) (by kernel_rfl) ?_)
      refine To.run 3 ?_
      refine To.isFalse 17 (t := decide (4 > dcs)) (by kernel_rfl) (by (simp; omega)) ?_
      refine To.run 8 ?_
      refine To.one (One.load 0 (t := 3) (off := 0) (v := Value.int IntKind.i64 dcs) hs rfl (by kernel_rfl) (by kernel_rfl) ?_)
      refine To.run 3 ?_
      refine To.isFalse 29 (t := decide (1 > dcs)) (by kernel_rfl) (by (simp; omega)) ?_
      refine To.run 16 ?_
      refine To.one (One.load 0 (t := 25) (off := 22) (v := Value.pointer (some { block := B 21, off := 0 })) hs rfl (by kernel_rfl) (by kernel_rfl) ?_)
      refine To.run 2 ?_
      refine To.retv Try.func66 (by kernel_rfl) (v := Value.pointer (some { block := B 21, off := 0 })) (by kernel_rfl) ?_
      exact ⟨_, _, rfl, ⟨rfl, rfl⟩, hs⟩
    · subst ht
      refine Trip.of Try.func66 (by kernel_rfl) fun E w L hs => ?_
      simp only [List.cons_append, List.nil_append] at hs
      refine To.run 14 ?_
      refine To.one (One.load 0 (t := 3) (off := 0) (v := Value.int IntKind.i64 dcs) hs rfl (by kernel_rfl) (by kernel_rfl) ?_)
      refine To.run 3 ?_
      refine To.isFalse 17 (t := decide (4 > dcs)) (by kernel_rfl) (by (simp; omega)) ?_
      refine To.run 8 ?_
      refine To.one (One.load 0 (t := 3) (off := 0) (v := Value.int IntKind.i64 dcs) hs rfl (by kernel_rfl) (by kernel_rfl) ?_)
      refine To.run 3 ?_
      refine To.isFalse 29 (t := decide (2 > dcs)) (by kernel_rfl) (by (simp; omega)) ?_
      refine To.run 16 ?_
      refine To.one (One.load 0 (t := 25) (off := 23) (v := Value.pointer (some { block := B 22, off := 0 })) hs rfl (by kernel_rfl) (by kernel_rfl) ?_)
      refine To.run 2 ?_
      refine To.retv Try.func66 (by kernel_rfl) (v := Value.pointer (some { block := B 22, off := 0 })) (by kernel_rfl) ?_
      exact ⟨_, _, rfl, ⟨rfl, rfl⟩, hs⟩
    · subst ht
      refine Trip.of Try.func66 (by kernel_rfl) fun E w L hs => ?_
      simp only [List.cons_append, List.nil_append] at hs
      refine To.run 14 ?_
      refine To.one (One.load 0 (t := 3) (off := 0) (v := Value.int IntKind.i64 dcs) hs rfl (by kernel_rfl) (by kernel_rfl) ?_)
      refine To.run 3 ?_
      refine To.isFalse 17 (t := decide (4 > dcs)) (by kernel_rfl) (by (simp; omega)) ?_
      refine To.run 8 ?_
      refine To.one (One.load 0 (t := 3) (off := 0) (v := Value.int IntKind.i64 dcs) hs rfl (by kernel_rfl) (by kernel_rfl) ?_)
      refine To.run 3 ?_
      refine To.isFalse 29 (t := decide (3 > dcs)) (by kernel_rfl) (by (simp; omega)) ?_
      refine To.run 16 ?_
      refine To.one (One.load 0 (t := 25) (off := 24) (v := Value.pointer (some { block := B 23, off := 0 })) hs rfl (by kernel_rfl) (by kernel_rfl) ?_)
      refine To.run 2 ?_
      refine To.retv Try.func66 (by kernel_rfl) (v := Value.pointer (some { block := B 23, off := 0 })) (by kernel_rfl) ?_
      exact ⟨_, _, rfl, ⟨rfl, rfl⟩, hs⟩
    · exact absurd ht.symm h6

theorem ofI_no (nb : Nat) (dcs f t : Int) (B : Nat → Nat) (h : ¬ isLane dcs f t) : Trip Try.prog 66 [.pointer (some ⟨nb, 0, none⟩), .int .i64 f, .int .i64 t] [cel nb 128 (netCells dcs B)] (fun v l => v = .pointer none ∧ l = [cel nb 128 (netCells dcs B)]) := by
  refine Trip.of Try.func66 (by kernel_rfl) fun E w L hs => ?_
  by_cases h1 : f < 1
  · simp only [List.cons_append, List.nil_append] at hs
    refine To.run 10 ?_
    refine To.isTrue 9 (t := decide (f < 1)) (by kernel_rfl) (by (simp; omega)) ?_
    refine To.run 30 ?_
    refine To.retv Try.func66 (by kernel_rfl) (v := Value.pointer none) (by kernel_rfl) ?_
    exact ⟨_, _, rfl, ⟨rfl, rfl⟩, hs⟩
  by_cases h2 : f > dcs
  · simp only [List.cons_append, List.nil_append] at hs
    refine To.run 10 ?_
    refine To.isFalse 9 (t := decide (f < 1)) (by kernel_rfl) (by (simp; omega)) ?_
    refine To.run 4 ?_
    refine To.one (One.load 0 (t := 3) (off := 0) (v := Value.int IntKind.i64 dcs) hs rfl (by kernel_rfl) (by kernel_rfl) ?_)
    refine To.run 3 ?_
    refine To.isTrue 17 (t := decide (f > dcs)) (by kernel_rfl) (by (simp; omega)) ?_
    refine To.run 22 ?_
    refine To.retv Try.func66 (by kernel_rfl) (v := Value.pointer none) (by kernel_rfl) ?_
    exact ⟨_, _, rfl, ⟨rfl, rfl⟩, hs⟩
  by_cases h3 : t < 1
  · simp only [List.cons_append, List.nil_append] at hs
    refine To.run 10 ?_
    refine To.isFalse 9 (t := decide (f < 1)) (by kernel_rfl) (by (simp; omega)) ?_
    refine To.run 4 ?_
    refine To.one (One.load 0 (t := 3) (off := 0) (v := Value.int IntKind.i64 dcs) hs rfl (by kernel_rfl) (by kernel_rfl) ?_)
    refine To.run 3 ?_
    refine To.isFalse 17 (t := decide (f > dcs)) (by kernel_rfl) (by (simp; omega)) ?_
    refine To.run 4 ?_
    refine To.isTrue 21 (t := decide (t < 1)) (by kernel_rfl) (by (simp; omega)) ?_
    refine To.run 18 ?_
    refine To.retv Try.func66 (by kernel_rfl) (v := Value.pointer none) (by kernel_rfl) ?_
    exact ⟨_, _, rfl, ⟨rfl, rfl⟩, hs⟩
  by_cases h4 : t > dcs
  · simp only [List.cons_append, List.nil_append] at hs
    refine To.run 10 ?_
    refine To.isFalse 9 (t := decide (f < 1)) (by kernel_rfl) (by (simp; omega)) ?_
    refine To.run 4 ?_
    refine To.one (One.load 0 (t := 3) (off := 0) (v := Value.int IntKind.i64 dcs) hs rfl (by kernel_rfl) (by kernel_rfl) ?_)
    refine To.run 3 ?_
    refine To.isFalse 17 (t := decide (f > dcs)) (by kernel_rfl) (by (simp; omega)) ?_
    refine To.run 4 ?_
    refine To.isFalse 21 (t := decide (t < 1)) (by kernel_rfl) (by (simp; omega)) ?_
    refine To.run 4 ?_
    refine To.one (One.load 0 (t := 3) (off := 0) (v := Value.int IntKind.i64 dcs) hs rfl (by kernel_rfl) (by kernel_rfl) ?_)
    refine To.run 3 ?_
    refine To.isTrue 29 (t := decide (t > dcs)) (by kernel_rfl) (by (simp; omega)) ?_
    refine To.run 10 ?_
    refine To.retv Try.func66 (by kernel_rfl) (v := Value.pointer none) (by kernel_rfl) ?_
    exact ⟨_, _, rfl, ⟨rfl, rfl⟩, hs⟩
  have h5 : f = t := by
    by_cases e : f = t
    · exact e
    · exact absurd ⟨by omega, by omega, by omega, by omega, e⟩ h
  subst h5
  simp only [List.cons_append, List.nil_append] at hs
  refine To.run 10 ?_
  refine To.isFalse 9 (t := decide (f < 1)) (by kernel_rfl) (by (simp; omega)) ?_
  refine To.run 4 ?_
  refine To.one (One.load 0 (t := 3) (off := 0) (v := Value.int IntKind.i64 dcs) hs rfl (by kernel_rfl) (by kernel_rfl) ?_)
  refine To.run 3 ?_
  refine To.isFalse 17 (t := decide (f > dcs)) (by kernel_rfl) (by (simp; omega)) ?_
  refine To.run 4 ?_
  refine To.isFalse 21 (t := decide (f < 1)) (by kernel_rfl) (by (simp; omega)) ?_
  refine To.run 4 ?_
  refine To.one (One.load 0 (t := 3) (off := 0) (v := Value.int IntKind.i64 dcs) hs rfl (by kernel_rfl) (by kernel_rfl) ?_)
  refine To.run 3 ?_
  refine To.isFalse 29 (t := decide (f > dcs)) (by kernel_rfl) (by (simp; omega)) ?_
  refine To.run 5 ?_
  refine To.isTrue 33 (t := f == f) (by kernel_rfl) (by simp) ?_
  refine To.run 5 ?_
  refine To.retv Try.func66 (by kernel_rfl) (v := Value.pointer none) (by kernel_rfl) ?_
  exact ⟨_, _, rfl, ⟨rfl, rfl⟩, hs⟩

end Go.Proofs.Ythojpcfaaiefhaa
