import Derived.Test.YthojpcfaaiefhaaProg
import Derived.Test.YthojpcfaaiefhaaSxLaw
import Derived.Test.YthojpcfaaiefhaaNcopy
import Derived.Test.YthojpcfaaiefhaaNall
import Derived.Test.YthojpcfaaiefhaaNnew
set_option linter.unusedSimpArgs false
set_option linter.unusedVariables false
namespace Go.Proofs.Ythojpcfaaiefhaa
open Go Go.Sx
set_option linter.unusedSimpArgs false
set_option maxHeartbeats 0

/-- Something in the lane from 1 to 2 alone. -/
def one12 (ys : List Value) : Nat → List Value := putAt (fun _ => []) (ln 1 2) ys
theorem one12_at (ys : List Value) : one12 ys (ln 1 2) = ys := putAt_same _ _ _
theorem one12_put (ys zs : List Value) : putAt (one12 ys) (ln 1 2) zs = one12 zs := putAt_putAt _ _ _ _
theorem one12_zero (ys : List Value) : putAt (fun _ => []) (ln 1 2) ys = one12 ys := rfl
theorem one12_le (ys : List Value) (h : ys.length ≤ 1000) : ∀ i, (one12 ys i).length ≤ 1000 := by
  intro i
  unfold one12 putAt
  split
  · exact h
  · simp

theorem examples17_ok : Trip Try.prog 39 [] [] (fun v l => v = .bool true ∧ l = []) := by
  refine Trip.of Try.func39 (by kernel_rfl) fun E w L hs => ?_
  simp only [List.nil_append] at hs
  have i12 : isLane 2 1 2 := by decide
  have i21 : isLane 2 2 1 := by decide
  have n11 : ¬ isLane 2 1 1 := by decide
  have n31 : ¬ isLane 2 3 1 := by decide
  refine To.run 6 ?_
  refine To.one (One.call 0 [] [] (g := 40) (args := [Value.int IntKind.i64 0, Value.int IntKind.i64 1]) (by kernel_rfl) hs (NNewS_dcs (0) (1) (by omega)) (by decide) rfl ?_)
  rintro _ _ w1 ⟨rfl, rfl⟩ hs1
  simp only [pickAll, List.filterMap_cons, List.filterMap_nil, List.getElem?_cons_zero, List.getElem?_cons_succ, List.cons_append, List.nil_append, List.drop_succ_cons, List.drop_zero] at hs1
  clear hs
  refine To.run 8 ?_
  refine To.one (One.call 0 [] [] (g := 40) (args := [Value.int IntKind.i64 2, Value.int IntKind.i64 2]) (by kernel_rfl) hs1 (NNewS_ok (2) (2) (by omega) (by omega) (by omega) (by omega)) (by decide) rfl ?_)
  rintro _ _ w2 ⟨nb, B, C, rfl, rfl⟩ hs2
  simp only [pickAll, List.filterMap_cons, List.filterMap_nil, List.getElem?_cons_zero, List.getElem?_cons_succ, List.cons_append, List.nil_append, List.drop_succ_cons, List.drop_zero] at hs2
  clear hs1
  refine To.run 17 ?_
  rw [show Int.toNat 2 = 2 from rfl] at hs2
  have c1 := NSendS_room nb 2 2 1 2 B C (fun _ => []) (by decide) i12 (by decide) (Value.string ⟨#[97]⟩)
  simp only [List.nil_append, one12_zero] at c1
  have c3 := NCopyS_ok nb 2 2 1 2 B C (one12 [(Value.string ⟨#[97]⟩)]) (by decide) i12 ⟨#[97]⟩ [] (one12_at _) (by decide) (by decide)
  simp only [one12_put, List.nil_append, List.cons_append, List.map_cons, List.map_nil] at c3
  have c4 := NCopyS_full nb 2 2 1 2 B C (one12 [(Value.string ⟨#[97]⟩), (Value.string ⟨#[97]⟩)]) (by decide) i12 (by rw [one12_at]; decide) (by rw [one12_at]; rfl)
  have c5 := NLoseS_some nb 2 2 1 2 B C (one12 [(Value.string ⟨#[97]⟩), (Value.string ⟨#[97]⟩)]) (by decide) i12 (Value.string ⟨#[97]⟩) [(Value.string ⟨#[97]⟩)] (one12_at _)
  simp only [one12_put] at c5
  have c6 := NSendS_room nb 2 2 1 2 B C (one12 [(Value.string ⟨#[97]⟩)]) (by decide) i12 (by rw [one12_at]; decide) (Value.string ⟨#[98]⟩)
  simp only [one12_put, one12_at, List.nil_append, List.cons_append] at c6
  have c7 := NTurnS_some nb 2 2 1 2 B C (one12 [(Value.string ⟨#[97]⟩), (Value.string ⟨#[98]⟩)]) (by decide) i12 (Value.string ⟨#[97]⟩) [(Value.string ⟨#[98]⟩)] (one12_at _) (by decide)
  simp only [one12_put, one12_at, List.nil_append, List.cons_append] at c7
  have c8 := NTakeS_some nb 2 2 1 2 B C (one12 [(Value.string ⟨#[98]⟩), (Value.string ⟨#[97]⟩)]) (by decide) i12 (Value.string ⟨#[98]⟩) [(Value.string ⟨#[97]⟩)] (one12_at _)
  simp only [one12_put] at c8
  have c9 := NTakeS_none nb 2 2 2 1 B C (one12 [(Value.string ⟨#[97]⟩)]) (by decide) i21 rfl
  have c10 := NLenS_is nb 2 2 1 2 B C (one12 [(Value.string ⟨#[97]⟩)]) (by decide) i12
  simp only [one12_at, List.length_cons, List.length_nil] at c10
  have c11 := NAllS nb 2 2 B C (one12 [(Value.string ⟨#[97]⟩)]) (by decide) (one12_le _ (by simp))
  have c11s : sumTo 2 (one12 [(Value.string ⟨#[97]⟩)]) 25 = 1 := by kernel_rfl
  simp only [c11s] at c11
  refine To.one (One.call 2 [0, 1] [] (g := 49) (args := [Value.pointer (some { block := nb, off := 0 }), Value.int IntKind.i64 1, Value.int IntKind.i64 2, Value.string { data := #[97] }]) (by kernel_rfl) hs2 (c1) (by decide) rfl ?_)
  rintro _ _ w3 ⟨rfl, rfl⟩ hs1
  simp only [pickAll, List.filterMap_cons, List.filterMap_nil, List.getElem?_cons_zero, List.getElem?_cons_succ, List.cons_append, List.nil_append, List.drop_succ_cons, List.drop_zero] at hs1
  clear hs2
  refine To.run 5 ?_
  refine To.one (One.call 2 [0, 1] [] (g := 49) (args := [Value.pointer (some { block := nb, off := 0 }), Value.int IntKind.i64 1, Value.int IntKind.i64 1, Value.string { data := #[120] }]) (by kernel_rfl) hs1 (NSendS_no (nb) (2) (2) (1) (1) (B) (C) (one12 [Value.string { data := #[97] }]) (by assumption) (Value.string { data := #[120] })) (by decide) rfl ?_)
  rintro _ _ w4 ⟨rfl, rfl⟩ hs2
  simp only [pickAll, List.filterMap_cons, List.filterMap_nil, List.getElem?_cons_zero, List.getElem?_cons_succ, List.cons_append, List.nil_append, List.drop_succ_cons, List.drop_zero] at hs2
  clear hs1
  refine To.run 5 ?_
  refine To.one (One.call 2 [0, 1] [] (g := 45) (args := [Value.pointer (some { block := nb, off := 0 }), Value.int IntKind.i64 1, Value.int IntKind.i64 2]) (by kernel_rfl) hs2 (c3) (by decide) rfl ?_)
  rintro _ _ w5 ⟨rfl, rfl⟩ hs1
  simp only [pickAll, List.filterMap_cons, List.filterMap_nil, List.getElem?_cons_zero, List.getElem?_cons_succ, List.cons_append, List.nil_append, List.drop_succ_cons, List.drop_zero] at hs1
  clear hs2
  refine To.run 5 ?_
  refine To.one (One.call 2 [0, 1] [] (g := 45) (args := [Value.pointer (some { block := nb, off := 0 }), Value.int IntKind.i64 1, Value.int IntKind.i64 2]) (by kernel_rfl) hs1 (c4) (by decide) rfl ?_)
  rintro _ _ w6 ⟨rfl, rfl⟩ hs2
  simp only [pickAll, List.filterMap_cons, List.filterMap_nil, List.getElem?_cons_zero, List.getElem?_cons_succ, List.cons_append, List.nil_append, List.drop_succ_cons, List.drop_zero] at hs2
  clear hs1
  refine To.run 5 ?_
  refine To.one (One.call 2 [0, 1] [] (g := 44) (args := [Value.pointer (some { block := nb, off := 0 }), Value.int IntKind.i64 1, Value.int IntKind.i64 2]) (by kernel_rfl) hs2 (c5) (by decide) rfl ?_)
  rintro _ _ w7 ⟨rfl, rfl⟩ hs1
  simp only [pickAll, List.filterMap_cons, List.filterMap_nil, List.getElem?_cons_zero, List.getElem?_cons_succ, List.cons_append, List.nil_append, List.drop_succ_cons, List.drop_zero] at hs1
  clear hs2
  refine To.run 4 ?_
  refine To.one (One.call 2 [0, 1] [] (g := 49) (args := [Value.pointer (some { block := nb, off := 0 }), Value.int IntKind.i64 1, Value.int IntKind.i64 2, Value.string { data := #[98] }]) (by kernel_rfl) hs1 (c6) (by decide) rfl ?_)
  rintro _ _ w8 ⟨rfl, rfl⟩ hs2
  simp only [pickAll, List.filterMap_cons, List.filterMap_nil, List.getElem?_cons_zero, List.getElem?_cons_succ, List.cons_append, List.nil_append, List.drop_succ_cons, List.drop_zero] at hs2
  clear hs1
  refine To.run 5 ?_
  refine To.one (One.call 2 [0, 1] [] (g := 47) (args := [Value.pointer (some { block := nb, off := 0 }), Value.int IntKind.i64 1, Value.int IntKind.i64 2]) (by kernel_rfl) hs2 (c7) (by decide) rfl ?_)
  rintro _ _ w9 ⟨rfl, rfl⟩ hs1
  simp only [pickAll, List.filterMap_cons, List.filterMap_nil, List.getElem?_cons_zero, List.getElem?_cons_succ, List.cons_append, List.nil_append, List.drop_succ_cons, List.drop_zero] at hs1
  clear hs2
  refine To.run 5 ?_
  refine To.one (One.call 2 [0, 1] [] (g := 42) (args := [Value.pointer (some { block := nb, off := 0 }), Value.int IntKind.i64 1, Value.int IntKind.i64 2]) (by kernel_rfl) hs1 (c8) (by decide) rfl ?_)
  rintro _ _ w10 ⟨rfl, rfl⟩ hs2
  simp only [pickAll, List.filterMap_cons, List.filterMap_nil, List.getElem?_cons_zero, List.getElem?_cons_succ, List.cons_append, List.nil_append, List.drop_succ_cons, List.drop_zero] at hs2
  clear hs1
  refine To.run 9 ?_
  refine To.one (One.call 2 [0, 1] [] (g := 42) (args := [Value.pointer (some { block := nb, off := 0 }), Value.int IntKind.i64 2, Value.int IntKind.i64 1]) (by kernel_rfl) hs2 (c9) (by decide) rfl ?_)
  rintro _ _ w11 ⟨rfl, rfl⟩ hs1
  simp only [pickAll, List.filterMap_cons, List.filterMap_nil, List.getElem?_cons_zero, List.getElem?_cons_succ, List.cons_append, List.nil_append, List.drop_succ_cons, List.drop_zero] at hs1
  clear hs2
  refine To.run 47 ?_
  refine To.one (One.call 2 [0, 1] [] (g := 51) (args := [Value.pointer (some { block := nb, off := 0 }), Value.int IntKind.i64 1, Value.int IntKind.i64 2]) (by kernel_rfl) hs1 (c10) (by decide) rfl ?_)
  rintro _ _ w12 ⟨rfl, rfl⟩ hs2
  simp only [pickAll, List.filterMap_cons, List.filterMap_nil, List.getElem?_cons_zero, List.getElem?_cons_succ, List.cons_append, List.nil_append, List.drop_succ_cons, List.drop_zero] at hs2
  clear hs1
  refine To.run 4 ?_
  refine To.one (One.call 2 [0, 1] [] (g := 53) (args := [Value.pointer (some { block := nb, off := 0 })]) (by kernel_rfl) hs2 (c11) (by decide) rfl ?_)
  rintro _ _ w13 ⟨rfl, rfl⟩ hs1
  simp only [pickAll, List.filterMap_cons, List.filterMap_nil, List.getElem?_cons_zero, List.getElem?_cons_succ, List.cons_append, List.nil_append, List.drop_succ_cons, List.drop_zero] at hs1
  clear hs2
  refine To.run 4 ?_
  refine To.one (One.call 2 [0, 1] [] (g := 51) (args := [Value.pointer (some { block := nb, off := 0 }), Value.int IntKind.i64 3, Value.int IntKind.i64 1]) (by kernel_rfl) hs1 (NLenS_no (nb) (2) (2) (3) (1) (B) (C) (one12 [Value.string { data := #[97] }]) (by assumption)) (by decide) rfl ?_)
  rintro _ _ w14 ⟨rfl, rfl⟩ hs2
  simp only [pickAll, List.filterMap_cons, List.filterMap_nil, List.getElem?_cons_zero, List.getElem?_cons_succ, List.cons_append, List.nil_append, List.drop_succ_cons, List.drop_zero] at hs2
  clear hs1
  refine To.run 4 ?_
  refine To.retv Try.func39 (by kernel_rfl) (v := Value.bool true) (by kernel_rfl) ?_
  first
    | exact ⟨_, _, rfl, ⟨rfl, rfl⟩, hs1.sub (List.sublist_append_right [_, _] L)⟩
    | exact ⟨_, _, rfl, ⟨rfl, rfl⟩, hs2.sub (List.sublist_append_right [_, _] L)⟩
end Go.Proofs.Ythojpcfaaiefhaa
