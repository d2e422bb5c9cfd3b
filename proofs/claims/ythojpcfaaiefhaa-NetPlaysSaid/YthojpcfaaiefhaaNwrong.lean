import Derived.Test.YthojpcfaaiefhaaProg
import Derived.Test.YthojpcfaaiefhaaSxLaw
import Derived.Test.YthojpcfaaiefhaaNex
set_option linter.unusedSimpArgs false
set_option linter.unusedVariables false
namespace Go.Proofs.Ythojpcfaaiefhaa
open Go Go.Sx
set_option linter.unusedSimpArgs false
set_option maxHeartbeats 0

theorem sumTo_zero (dcs : Int) (X : Nat → List Value) (hX : ∀ i, X i = []) : ∀ n, sumTo dcs X n = 0
  | 0 => rfl
  | n + 1 => by
    rw [sumTo, sumTo_zero dcs X hX n]
    unfold lenAt
    split
    · rw [hX]; rfl
    · rfl

/-- Something in the lane from f to t alone. -/
def oneAt (f t : Int) (ys : List Value) : Nat → List Value := putAt (fun _ => []) (ln f t) ys
theorem oneAt_at (f t : Int) (ys : List Value) : oneAt f t ys (ln f t) = ys := putAt_same _ _ _
theorem oneAt_put (f t : Int) (ys zs : List Value) : putAt (oneAt f t ys) (ln f t) zs = oneAt f t zs := putAt_putAt _ _ _ _
theorem oneAt_zero (f t : Int) (ys : List Value) : putAt (fun _ => []) (ln f t) ys = oneAt f t ys := rfl
theorem oneAt_nil (f t : Int) : ∀ i, oneAt f t [] i = [] := by
  intro i
  unfold oneAt putAt
  split <;> rfl

theorem near4 (a : Int) (h0 : 0 ≤ a) (h1 : a ≤ 255) : ∃ r : Int, Value.int .i64 (IntKind.i64.wrap (1 + IntKind.i64.wrap (a.tmod 4))) = Value.int .i64 r ∧ 1 ≤ r ∧ r ≤ 4 := by
  have h2 : a.tmod 4 = a % 4 := Int.tmod_eq_emod_of_nonneg h0
  refine ⟨1 + a % 4, ?_, by omega, by omega⟩
  rw [h2, wrap_i64 (e := a % 4) (by omega) (by omega), wrap_i64 (by omega) (by omega)]

theorem NW_law (W : World) (f t a : Int) (ha0 : 0 ≤ a) (ha1 : a ≤ 255) : Calls Try.prog 10 #[.int .i64 f, .int .i64 t, .int .u8 a] W (LawEnd W) := by
  refine Sx.start (args := [_, _, _]) Try.func10 (by kernel_rfl) ?_
  have hs := Sat.start W
  obtain ⟨r, hr, h1, h2⟩ := near4 a ha0 ha1
  refine To.run 6 ?_
  refine To.one (One.call 1 [] [0] (g := 39) (args := []) (by kernel_rfl) hs (examples17_ok) (by decide) rfl ?_)
  rintro _ _ w1 ⟨rfl, rfl⟩ hs1
  simp only [pickAll, List.filterMap_cons, List.filterMap_nil, List.getElem?_cons_zero, List.getElem?_cons_succ, List.cons_append, List.nil_append, List.drop_succ_cons, List.drop_zero] at hs1
  clear hs
  refine To.run 15 ?_
  refine To.run 1 ?_
  refine To.run 5 ?_
  refine To.known 8 _ (by kernel_rfl) hr ?_
  refine To.known 26 _ (by kernel_rfl) hr ?_
  have x7 : IntKind.i64.wrap 7 = 7 := rfl
  refine To.one (One.call 1 [] [0] (g := 55) (args := [Value.int IntKind.i64 r, Value.int IntKind.i64 4]) (by kernel_rfl) hs1 (NNewI_ok (r) (4) (by assumption) (by assumption) (by omega) (by omega)) (by decide) rfl ?_)
  rintro _ _ w2 ⟨nb, B, C, rfl, rfl⟩ hs2
  simp only [pickAll, List.filterMap_cons, List.filterMap_nil, List.getElem?_cons_zero, List.getElem?_cons_succ, List.cons_append, List.nil_append, List.drop_succ_cons, List.drop_zero] at hs2
  clear hs1
  refine To.run 23 ?_
  rw [show Int.toNat 4 = 4 from rfl] at hs2
  by_cases h : isLane r f t
  · obtain ⟨q1, q2, q3, q4, q5⟩ := id h
    have c1 := NSendI_room nb 4 r f t B C (fun _ => []) h2 h (by decide) (.int .i64 7)
    simp only [List.nil_append, oneAt_zero] at c1
    have c2 := NCopyI_ok nb 4 r f t B C (oneAt f t [.int .i64 7]) h2 h 7 [] (oneAt_at _ _ _) (by decide) (by decide)
    simp only [oneAt_put, List.nil_append, List.cons_append, List.map_cons, List.map_nil] at c2
    have c3 := NTurnI_some nb 4 r f t B C (oneAt f t [.int .i64 7, .int .i64 7]) h2 h (.int .i64 7) [.int .i64 7] (oneAt_at _ _ _) (by decide)
    simp only [oneAt_put, List.nil_append, List.cons_append] at c3
    have c4 := NLoseI_some nb 4 r f t B C (oneAt f t [.int .i64 7, .int .i64 7]) h2 h (.int .i64 7) [.int .i64 7] (oneAt_at _ _ _)
    simp only [oneAt_put] at c4
    have c5 := NTakeI_some nb 4 r f t B C (oneAt f t [.int .i64 7]) h2 h (.int .i64 7) [] (oneAt_at _ _ _)
    simp only [oneAt_put] at c5
    have c6 := NLenI_is nb 4 r f t B C (oneAt f t []) h2 h
    simp only [oneAt_at, List.length_nil] at c6
    have c7 := NAllI nb 4 r B C (oneAt f t []) h2 (fun i => by rw [oneAt_nil]; decide)
    simp only [sumTo_zero r (oneAt f t []) (oneAt_nil f t)] at c7
    clear hr
    refine To.isTrue 38 (t := decide (f ≥ 1)) (by kernel_rfl) (by (simp; omega)) ?_
    refine To.run 5 ?_
    refine To.isTrue 43 (t := decide (f ≤ r)) (by kernel_rfl) (by (simp; omega)) ?_
    refine To.run 4 ?_
    refine To.isTrue 47 (t := decide (t ≥ 1)) (by kernel_rfl) (by (simp; omega)) ?_
    refine To.run 5 ?_
    refine To.isTrue 52 (t := decide (t ≤ r)) (by kernel_rfl) (by (simp; omega)) ?_
    refine To.run 11 ?_
    refine To.one (One.call 3 [0, 1] [2] (g := 56) (args := [Value.pointer (some { block := nb, off := 0 }), Value.int IntKind.i64 f, Value.int IntKind.i64 t, Value.int IntKind.i64 7]) (by kernel_rfl) hs2 (c1) (by decide) rfl ?_)
    rintro _ _ w3 ⟨rfl, rfl⟩ hs1
    simp only [pickAll, List.filterMap_cons, List.filterMap_nil, List.getElem?_cons_zero, List.getElem?_cons_succ, List.cons_append, List.nil_append, List.drop_succ_cons, List.drop_zero] at hs1
    clear hs2
    refine To.run 7 ?_
    refine To.one (One.call 3 [0, 1] [2] (g := 61) (args := [Value.pointer (some { block := nb, off := 0 }), Value.int IntKind.i64 f, Value.int IntKind.i64 t]) (by kernel_rfl) hs1 (c2) (by decide) rfl ?_)
    rintro _ _ w4 ⟨rfl, rfl⟩ hs2
    simp only [pickAll, List.filterMap_cons, List.filterMap_nil, List.getElem?_cons_zero, List.getElem?_cons_succ, List.cons_append, List.nil_append, List.drop_succ_cons, List.drop_zero] at hs2
    clear hs1
    refine To.run 7 ?_
    refine To.one (One.call 3 [0, 1] [2] (g := 60) (args := [Value.pointer (some { block := nb, off := 0 }), Value.int IntKind.i64 f, Value.int IntKind.i64 t]) (by kernel_rfl) hs2 (c3) (by decide) rfl ?_)
    rintro _ _ w5 ⟨rfl, rfl⟩ hs1
    simp only [pickAll, List.filterMap_cons, List.filterMap_nil, List.getElem?_cons_zero, List.getElem?_cons_succ, List.cons_append, List.nil_append, List.drop_succ_cons, List.drop_zero] at hs1
    clear hs2
    refine To.run 7 ?_
    refine To.one (One.call 3 [0, 1] [2] (g := 62) (args := [Value.pointer (some { block := nb, off := 0 }), Value.int IntKind.i64 f, Value.int IntKind.i64 t]) (by kernel_rfl) hs1 (c4) (by decide) rfl ?_)
    rintro _ _ w6 ⟨rfl, rfl⟩ hs2
    simp only [pickAll, List.filterMap_cons, List.filterMap_nil, List.getElem?_cons_zero, List.getElem?_cons_succ, List.cons_append, List.nil_append, List.drop_succ_cons, List.drop_zero] at hs2
    clear hs1
    refine To.run 7 ?_
    refine To.one (One.call 3 [0, 1] [2] (g := 59) (args := [Value.pointer (some { block := nb, off := 0 }), Value.int IntKind.i64 f, Value.int IntKind.i64 t]) (by kernel_rfl) hs2 (c5) (by decide) rfl ?_)
    rintro _ _ w7 ⟨rfl, rfl⟩ hs1
    simp only [pickAll, List.filterMap_cons, List.filterMap_nil, List.getElem?_cons_zero, List.getElem?_cons_succ, List.cons_append, List.nil_append, List.drop_succ_cons, List.drop_zero] at hs1
    clear hs2
    refine To.run 15 ?_
    refine To.isTrue 86 (t := true == (f != t)) (by kernel_rfl) (by (simp; omega)) ?_
    refine To.run 5 ?_
    refine To.isTrue 91 (t := true == (f != t)) (by kernel_rfl) (by (simp; omega)) ?_
    refine To.run 5 ?_
    refine To.isTrue 96 (t := true == (f != t)) (by kernel_rfl) (by (simp; omega)) ?_
    refine To.run 5 ?_
    refine To.isTrue 101 (t := true == (f != t)) (by kernel_rfl) (by (simp; omega)) ?_
    refine To.run 5 ?_
    refine To.isTrue 106 (t := true == (f != t)) (by kernel_rfl) (by (simp; omega)) ?_
    refine To.run 6 ?_
    refine To.isTrue 112 (t := true == (f != t)) (by kernel_rfl) (by (simp; omega)) ?_
    refine To.run 3 ?_
    refine To.one (One.call 3 [0, 1] [2] (g := 58) (args := [Value.pointer (some { block := nb, off := 0 }), Value.int IntKind.i64 f, Value.int IntKind.i64 t]) (by kernel_rfl) hs1 (c6) (by decide) rfl ?_)
    rintro _ _ w8 ⟨rfl, rfl⟩ hs2
    simp only [pickAll, List.filterMap_cons, List.filterMap_nil, List.getElem?_cons_zero, List.getElem?_cons_succ, List.cons_append, List.nil_append, List.drop_succ_cons, List.drop_zero] at hs2
    clear hs1
    refine To.run 4 ?_
    refine To.one (One.call 3 [0, 1] [2] (g := 57) (args := [Value.pointer (some { block := nb, off := 0 })]) (by kernel_rfl) hs2 (c7) (by decide) rfl ?_)
    rintro _ _ w9 ⟨rfl, rfl⟩ hs1
    simp only [pickAll, List.filterMap_cons, List.filterMap_nil, List.getElem?_cons_zero, List.getElem?_cons_succ, List.cons_append, List.nil_append, List.drop_succ_cons, List.drop_zero] at hs1
    clear hs2
    refine To.run 4 ?_
    refine To.retv Try.func10 (by kernel_rfl) (v := Value.bool true) (by kernel_rfl) ?_
    first
      | exact hs1.lawEnd 2 rfl
      | exact hs2.lawEnd 2 rfl
  · have c7 := NAllI nb 4 r B C (fun _ => []) h2 (fun i => by decide)
    simp only [sumTo_zero r (fun _ => []) (fun _ => rfl)] at c7
    clear hr
    by_cases q1 : 1 ≤ f
    · by_cases q2 : f ≤ r
      · by_cases q3 : 1 ≤ t
        · by_cases q4 : t ≤ r
          · have q5 : f = t := by
              by_cases e : f = t
              · exact e
              · exact absurd ⟨q1, q2, q3, q4, e⟩ h
            refine To.isTrue 38 (t := decide (f ≥ 1)) (by kernel_rfl) (by (simp; omega)) ?_
            refine To.run 5 ?_
            refine To.isTrue 43 (t := decide (f ≤ r)) (by kernel_rfl) (by (simp; omega)) ?_
            refine To.run 4 ?_
            refine To.isTrue 47 (t := decide (t ≥ 1)) (by kernel_rfl) (by (simp; omega)) ?_
            refine To.run 5 ?_
            refine To.isTrue 52 (t := decide (t ≤ r)) (by kernel_rfl) (by (simp; omega)) ?_
            refine To.run 11 ?_
            refine To.one (One.call 3 [0, 1] [2] (g := 56) (args := [Value.pointer (some { block := nb, off := 0 }), Value.int IntKind.i64 f, Value.int IntKind.i64 t, Value.int IntKind.i64 7]) (by kernel_rfl) hs2 (NSendI_no (nb) (4) (r) (f) (t) (B) (C) (fun x => []) (by assumption) (Value.int IntKind.i64 7)) (by decide) rfl ?_)
            rintro _ _ w3 ⟨rfl, rfl⟩ hs1
            simp only [pickAll, List.filterMap_cons, List.filterMap_nil, List.getElem?_cons_zero, List.getElem?_cons_succ, List.cons_append, List.nil_append, List.drop_succ_cons, List.drop_zero] at hs1
            clear hs2
            refine To.run 7 ?_
            refine To.one (One.call 3 [0, 1] [2] (g := 61) (args := [Value.pointer (some { block := nb, off := 0 }), Value.int IntKind.i64 f, Value.int IntKind.i64 t]) (by kernel_rfl) hs1 (NCopyI_no (nb) (4) (r) (f) (t) (B) (C) (fun x => []) (by assumption)) (by decide) rfl ?_)
            rintro _ _ w4 ⟨rfl, rfl⟩ hs2
            simp only [pickAll, List.filterMap_cons, List.filterMap_nil, List.getElem?_cons_zero, List.getElem?_cons_succ, List.cons_append, List.nil_append, List.drop_succ_cons, List.drop_zero] at hs2
            clear hs1
            refine To.run 7 ?_
            refine To.one (One.call 3 [0, 1] [2] (g := 60) (args := [Value.pointer (some { block := nb, off := 0 }), Value.int IntKind.i64 f, Value.int IntKind.i64 t]) (by kernel_rfl) hs2 (NTurnI_no (nb) (4) (r) (f) (t) (B) (C) (fun x => []) (by assumption)) (by decide) rfl ?_)
            rintro _ _ w5 ⟨rfl, rfl⟩ hs1
            simp only [pickAll, List.filterMap_cons, List.filterMap_nil, List.getElem?_cons_zero, List.getElem?_cons_succ, List.cons_append, List.nil_append, List.drop_succ_cons, List.drop_zero] at hs1
            clear hs2
            refine To.run 7 ?_
            refine To.one (One.call 3 [0, 1] [2] (g := 62) (args := [Value.pointer (some { block := nb, off := 0 }), Value.int IntKind.i64 f, Value.int IntKind.i64 t]) (by kernel_rfl) hs1 (NLoseI_no (nb) (4) (r) (f) (t) (B) (C) (fun x => []) (by assumption)) (by decide) rfl ?_)
            rintro _ _ w6 ⟨rfl, rfl⟩ hs2
            simp only [pickAll, List.filterMap_cons, List.filterMap_nil, List.getElem?_cons_zero, List.getElem?_cons_succ, List.cons_append, List.nil_append, List.drop_succ_cons, List.drop_zero] at hs2
            clear hs1
            refine To.run 7 ?_
            refine To.one (One.call 3 [0, 1] [2] (g := 59) (args := [Value.pointer (some { block := nb, off := 0 }), Value.int IntKind.i64 f, Value.int IntKind.i64 t]) (by kernel_rfl) hs2 (NTakeI_no (nb) (4) (r) (f) (t) (B) (C) (fun x => []) (by assumption)) (by decide) rfl ?_)
            rintro _ _ w7 ⟨rfl, rfl⟩ hs1
            simp only [pickAll, List.filterMap_cons, List.filterMap_nil, List.getElem?_cons_zero, List.getElem?_cons_succ, List.cons_append, List.nil_append, List.drop_succ_cons, List.drop_zero] at hs1
            clear hs2
            refine To.run 15 ?_
            refine To.isTrue 86 (t := false == (f != t)) (by kernel_rfl) (by (simp; omega)) ?_
            refine To.run 5 ?_
            refine To.isTrue 91 (t := false == (f != t)) (by kernel_rfl) (by (simp; omega)) ?_
            refine To.run 5 ?_
            refine To.isTrue 96 (t := false == (f != t)) (by kernel_rfl) (by (simp; omega)) ?_
            refine To.run 5 ?_
            refine To.isTrue 101 (t := false == (f != t)) (by kernel_rfl) (by (simp; omega)) ?_
            refine To.run 5 ?_
            refine To.isTrue 106 (t := false == (f != t)) (by kernel_rfl) (by (simp; omega)) ?_
            refine To.run 6 ?_
            refine To.isTrue 112 (t := false == (f != t)) (by kernel_rfl) (by (simp; omega)) ?_
            refine To.run 3 ?_
            refine To.one (One.call 3 [0, 1] [2] (g := 58) (args := [Value.pointer (some { block := nb, off := 0 }), Value.int IntKind.i64 f, Value.int IntKind.i64 t]) (by kernel_rfl) hs1 (NLenI_no (nb) (4) (r) (f) (t) (B) (C) (fun x => []) (by assumption)) (by decide) rfl ?_)
            rintro _ _ w8 ⟨rfl, rfl⟩ hs2
            simp only [pickAll, List.filterMap_cons, List.filterMap_nil, List.getElem?_cons_zero, List.getElem?_cons_succ, List.cons_append, List.nil_append, List.drop_succ_cons, List.drop_zero] at hs2
            clear hs1
            refine To.run 4 ?_
            refine To.one (One.call 3 [0, 1] [2] (g := 57) (args := [Value.pointer (some { block := nb, off := 0 })]) (by kernel_rfl) hs2 (c7) (by decide) rfl ?_)
            rintro _ _ w9 ⟨rfl, rfl⟩ hs1
            simp only [pickAll, List.filterMap_cons, List.filterMap_nil, List.getElem?_cons_zero, List.getElem?_cons_succ, List.cons_append, List.nil_append, List.drop_succ_cons, List.drop_zero] at hs1
            clear hs2
            refine To.run 4 ?_
            refine To.retv Try.func10 (by kernel_rfl) (v := Value.bool true) (by kernel_rfl) ?_
            exact hs1.lawEnd 2 rfl
          · refine To.isTrue 38 (t := decide (f ≥ 1)) (by kernel_rfl) (by (simp; omega)) ?_
            refine To.run 5 ?_
            refine To.isTrue 43 (t := decide (f ≤ r)) (by kernel_rfl) (by (simp; omega)) ?_
            refine To.run 4 ?_
            refine To.isTrue 47 (t := decide (t ≥ 1)) (by kernel_rfl) (by (simp; omega)) ?_
            refine To.run 5 ?_
            refine To.isFalse 52 (t := decide (t ≤ r)) (by kernel_rfl) (by (simp; omega)) ?_
            refine To.run 11 ?_
            refine To.one (One.call 3 [0, 1] [2] (g := 56) (args := [Value.pointer (some { block := nb, off := 0 }), Value.int IntKind.i64 f, Value.int IntKind.i64 t, Value.int IntKind.i64 7]) (by kernel_rfl) hs2 (NSendI_no (nb) (4) (r) (f) (t) (B) (C) (fun x => []) (by assumption) (Value.int IntKind.i64 7)) (by decide) rfl ?_)
            rintro _ _ w3 ⟨rfl, rfl⟩ hs1
            simp only [pickAll, List.filterMap_cons, List.filterMap_nil, List.getElem?_cons_zero, List.getElem?_cons_succ, List.cons_append, List.nil_append, List.drop_succ_cons, List.drop_zero] at hs1
            clear hs2
            refine To.run 7 ?_
            refine To.one (One.call 3 [0, 1] [2] (g := 61) (args := [Value.pointer (some { block := nb, off := 0 }), Value.int IntKind.i64 f, Value.int IntKind.i64 t]) (by kernel_rfl) hs1 (NCopyI_no (nb) (4) (r) (f) (t) (B) (C) (fun x => []) (by assumption)) (by decide) rfl ?_)
            rintro _ _ w4 ⟨rfl, rfl⟩ hs2
            simp only [pickAll, List.filterMap_cons, List.filterMap_nil, List.getElem?_cons_zero, List.getElem?_cons_succ, List.cons_append, List.nil_append, List.drop_succ_cons, List.drop_zero] at hs2
            clear hs1
            refine To.run 7 ?_
            refine To.one (One.call 3 [0, 1] [2] (g := 60) (args := [Value.pointer (some { block := nb, off := 0 }), Value.int IntKind.i64 f, Value.int IntKind.i64 t]) (by kernel_rfl) hs2 (NTurnI_no (nb) (4) (r) (f) (t) (B) (C) (fun x => []) (by assumption)) (by decide) rfl ?_)
            rintro _ _ w5 ⟨rfl, rfl⟩ hs1
            simp only [pickAll, List.filterMap_cons, List.filterMap_nil, List.getElem?_cons_zero, List.getElem?_cons_succ, List.cons_append, List.nil_append, List.drop_succ_cons, List.drop_zero] at hs1
            clear hs2
            refine To.run 7 ?_
            refine To.one (One.call 3 [0, 1] [2] (g := 62) (args := [Value.pointer (some { block := nb, off := 0 }), Value.int IntKind.i64 f, Value.int IntKind.i64 t]) (by kernel_rfl) hs1 (NLoseI_no (nb) (4) (r) (f) (t) (B) (C) (fun x => []) (by assumption)) (by decide) rfl ?_)
            rintro _ _ w6 ⟨rfl, rfl⟩ hs2
            simp only [pickAll, List.filterMap_cons, List.filterMap_nil, List.getElem?_cons_zero, List.getElem?_cons_succ, List.cons_append, List.nil_append, List.drop_succ_cons, List.drop_zero] at hs2
            clear hs1
            refine To.run 7 ?_
            refine To.one (One.call 3 [0, 1] [2] (g := 59) (args := [Value.pointer (some { block := nb, off := 0 }), Value.int IntKind.i64 f, Value.int IntKind.i64 t]) (by kernel_rfl) hs2 (NTakeI_no (nb) (4) (r) (f) (t) (B) (C) (fun x => []) (by assumption)) (by decide) rfl ?_)
            rintro _ _ w7 ⟨rfl, rfl⟩ hs1
            simp only [pickAll, List.filterMap_cons, List.filterMap_nil, List.getElem?_cons_zero, List.getElem?_cons_succ, List.cons_append, List.nil_append, List.drop_succ_cons, List.drop_zero] at hs1
            clear hs2
            refine To.run 44 ?_
            refine To.one (One.call 3 [0, 1] [2] (g := 58) (args := [Value.pointer (some { block := nb, off := 0 }), Value.int IntKind.i64 f, Value.int IntKind.i64 t]) (by kernel_rfl) hs1 (NLenI_no (nb) (4) (r) (f) (t) (B) (C) (fun x => []) (by assumption)) (by decide) rfl ?_)
            rintro _ _ w8 ⟨rfl, rfl⟩ hs2
            simp only [pickAll, List.filterMap_cons, List.filterMap_nil, List.getElem?_cons_zero, List.getElem?_cons_succ, List.cons_append, List.nil_append, List.drop_succ_cons, List.drop_zero] at hs2
            clear hs1
            refine To.run 4 ?_
            refine To.one (One.call 3 [0, 1] [2] (g := 57) (args := [Value.pointer (some { block := nb, off := 0 })]) (by kernel_rfl) hs2 (c7) (by decide) rfl ?_)
            rintro _ _ w9 ⟨rfl, rfl⟩ hs1
            simp only [pickAll, List.filterMap_cons, List.filterMap_nil, List.getElem?_cons_zero, List.getElem?_cons_succ, List.cons_append, List.nil_append, List.drop_succ_cons, List.drop_zero] at hs1
            clear hs2
            refine To.run 4 ?_
            refine To.retv Try.func10 (by kernel_rfl) (v := Value.bool true) (by kernel_rfl) ?_
            exact hs1.lawEnd 2 rfl
        · refine To.isTrue 38 (t := decide (f ≥ 1)) (by kernel_rfl) (by (simp; omega)) ?_
          refine To.run 5 ?_
          refine To.isTrue 43 (t := decide (f ≤ r)) (by kernel_rfl) (by (simp; omega)) ?_
          refine To.run 4 ?_
          refine To.isFalse 47 (t := decide (t ≥ 1)) (by kernel_rfl) (by (simp; omega)) ?_
          refine To.run 16 ?_
          refine To.one (One.call 3 [0, 1] [2] (g := 56) (args := [Value.pointer (some { block := nb, off := 0 }), Value.int IntKind.i64 f, Value.int IntKind.i64 t, Value.int IntKind.i64 7]) (by kernel_rfl) hs2 (NSendI_no (nb) (4) (r) (f) (t) (B) (C) (fun x => []) (by assumption) (Value.int IntKind.i64 7)) (by decide) rfl ?_)
          rintro _ _ w3 ⟨rfl, rfl⟩ hs1
          simp only [pickAll, List.filterMap_cons, List.filterMap_nil, List.getElem?_cons_zero, List.getElem?_cons_succ, List.cons_append, List.nil_append, List.drop_succ_cons, List.drop_zero] at hs1
          clear hs2
          refine To.run 7 ?_
          refine To.one (One.call 3 [0, 1] [2] (g := 61) (args := [Value.pointer (some { block := nb, off := 0 }), Value.int IntKind.i64 f, Value.int IntKind.i64 t]) (by kernel_rfl) hs1 (NCopyI_no (nb) (4) (r) (f) (t) (B) (C) (fun x => []) (by assumption)) (by decide) rfl ?_)
          rintro _ _ w4 ⟨rfl, rfl⟩ hs2
          simp only [pickAll, List.filterMap_cons, List.filterMap_nil, List.getElem?_cons_zero, List.getElem?_cons_succ, List.cons_append, List.nil_append, List.drop_succ_cons, List.drop_zero] at hs2
          clear hs1
          refine To.run 7 ?_
          refine To.one (One.call 3 [0, 1] [2] (g := 60) (args := [Value.pointer (some { block := nb, off := 0 }), Value.int IntKind.i64 f, Value.int IntKind.i64 t]) (by kernel_rfl) hs2 (NTurnI_no (nb) (4) (r) (f) (t) (B) (C) (fun x => []) (by assumption)) (by decide) rfl ?_)
          rintro _ _ w5 ⟨rfl, rfl⟩ hs1
          simp only [pickAll, List.filterMap_cons, List.filterMap_nil, List.getElem?_cons_zero, List.getElem?_cons_succ, List.cons_append, List.nil_append, List.drop_succ_cons, List.drop_zero] at hs1
          clear hs2
          refine To.run 7 ?_
          refine To.one (One.call 3 [0, 1] [2] (g := 62) (args := [Value.pointer (some { block := nb, off := 0 }), Value.int IntKind.i64 f, Value.int IntKind.i64 t]) (by kernel_rfl) hs1 (NLoseI_no (nb) (4) (r) (f) (t) (B) (C) (fun x => []) (by assumption)) (by decide) rfl ?_)
          rintro _ _ w6 ⟨rfl, rfl⟩ hs2
          simp only [pickAll, List.filterMap_cons, List.filterMap_nil, List.getElem?_cons_zero, List.getElem?_cons_succ, List.cons_append, List.nil_append, List.drop_succ_cons, List.drop_zero] at hs2
          clear hs1
          refine To.run 7 ?_
          refine To.one (One.call 3 [0, 1] [2] (g := 59) (args := [Value.pointer (some { block := nb, off := 0 }), Value.int IntKind.i64 f, Value.int IntKind.i64 t]) (by kernel_rfl) hs2 (NTakeI_no (nb) (4) (r) (f) (t) (B) (C) (fun x => []) (by assumption)) (by decide) rfl ?_)
          rintro _ _ w7 ⟨rfl, rfl⟩ hs1
          simp only [pickAll, List.filterMap_cons, List.filterMap_nil, List.getElem?_cons_zero, List.getElem?_cons_succ, List.cons_append, List.nil_append, List.drop_succ_cons, List.drop_zero] at hs1
          clear hs2
          refine To.run 44 ?_
          refine To.one (One.call 3 [0, 1] [2] (g := 58) (args := [Value.pointer (some { block := nb, off := 0 }), Value.int IntKind.i64 f, Value.int IntKind.i64 t]) (by kernel_rfl) hs1 (NLenI_no (nb) (4) (r) (f) (t) (B) (C) (fun x => []) (by assumption)) (by decide) rfl ?_)
          rintro _ _ w8 ⟨rfl, rfl⟩ hs2
          simp only [pickAll, List.filterMap_cons, List.filterMap_nil, List.getElem?_cons_zero, List.getElem?_cons_succ, List.cons_append, List.nil_append, List.drop_succ_cons, List.drop_zero] at hs2
          clear hs1
          refine To.run 4 ?_
          refine To.one (One.call 3 [0, 1] [2] (g := 57) (args := [Value.pointer (some { block := nb, off := 0 })]) (by kernel_rfl) hs2 (c7) (by decide) rfl ?_)
          rintro _ _ w9 ⟨rfl, rfl⟩ hs1
          simp only [pickAll, List.filterMap_cons, List.filterMap_nil, List.getElem?_cons_zero, List.getElem?_cons_succ, List.cons_append, List.nil_append, List.drop_succ_cons, List.drop_zero] at hs1
          clear hs2
          refine To.run 4 ?_
          refine To.retv Try.func10 (by kernel_rfl) (v := Value.bool true) (by kernel_rfl) ?_
          exact hs1.lawEnd 2 rfl
      · refine To.isTrue 38 (t := decide (f ≥ 1)) (by kernel_rfl) (by (simp; omega)) ?_
        refine To.run 5 ?_
        refine To.isFalse 43 (t := decide (f ≤ r)) (by kernel_rfl) (by (simp; omega)) ?_
        refine To.run 20 ?_
        refine To.one (One.call 3 [0, 1] [2] (g := 56) (args := [Value.pointer (some { block := nb, off := 0 }), Value.int IntKind.i64 f, Value.int IntKind.i64 t, Value.int IntKind.i64 7]) (by kernel_rfl) hs2 (NSendI_no (nb) (4) (r) (f) (t) (B) (C) (fun x => []) (by assumption) (Value.int IntKind.i64 7)) (by decide) rfl ?_)
        rintro _ _ w3 ⟨rfl, rfl⟩ hs1
        simp only [pickAll, List.filterMap_cons, List.filterMap_nil, List.getElem?_cons_zero, List.getElem?_cons_succ, List.cons_append, List.nil_append, List.drop_succ_cons, List.drop_zero] at hs1
        clear hs2
        refine To.run 7 ?_
        refine To.one (One.call 3 [0, 1] [2] (g := 61) (args := [Value.pointer (some { block := nb, off := 0 }), Value.int IntKind.i64 f, Value.int IntKind.i64 t]) (by kernel_rfl) hs1 (NCopyI_no (nb) (4) (r) (f) (t) (B) (C) (fun x => []) (by assumption)) (by decide) rfl ?_)
        rintro _ _ w4 ⟨rfl, rfl⟩ hs2
        simp only [pickAll, List.filterMap_cons, List.filterMap_nil, List.getElem?_cons_zero, List.getElem?_cons_succ, List.cons_append, List.nil_append, List.drop_succ_cons, List.drop_zero] at hs2
        clear hs1
        refine To.run 7 ?_
        refine To.one (One.call 3 [0, 1] [2] (g := 60) (args := [Value.pointer (some { block := nb, off := 0 }), Value.int IntKind.i64 f, Value.int IntKind.i64 t]) (by kernel_rfl) hs2 (NTurnI_no (nb) (4) (r) (f) (t) (B) (C) (fun x => []) (by assumption)) (by decide) rfl ?_)
        rintro _ _ w5 ⟨rfl, rfl⟩ hs1
        simp only [pickAll, List.filterMap_cons, List.filterMap_nil, List.getElem?_cons_zero, List.getElem?_cons_succ, List.cons_append, List.nil_append, List.drop_succ_cons, List.drop_zero] at hs1
        clear hs2
        refine To.run 7 ?_
        refine To.one (One.call 3 [0, 1] [2] (g := 62) (args := [Value.pointer (some { block := nb, off := 0 }), Value.int IntKind.i64 f, Value.int IntKind.i64 t]) (by kernel_rfl) hs1 (NLoseI_no (nb) (4) (r) (f) (t) (B) (C) (fun x => []) (by assumption)) (by decide) rfl ?_)
        rintro _ _ w6 ⟨rfl, rfl⟩ hs2
        simp only [pickAll, List.filterMap_cons, List.filterMap_nil, List.getElem?_cons_zero, List.getElem?_cons_succ, List.cons_append, List.nil_append, List.drop_succ_cons, List.drop_zero] at hs2
        clear hs1
        refine To.run 7 ?_
        refine To.one (One.call 3 [0, 1] [2] (g := 59) (args := [Value.pointer (some { block := nb, off := 0 }), Value.int IntKind.i64 f, Value.int IntKind.i64 t]) (by kernel_rfl) hs2 (NTakeI_no (nb) (4) (r) (f) (t) (B) (C) (fun x => []) (by assumption)) (by decide) rfl ?_)
        rintro _ _ w7 ⟨rfl, rfl⟩ hs1
        simp only [pickAll, List.filterMap_cons, List.filterMap_nil, List.getElem?_cons_zero, List.getElem?_cons_succ, List.cons_append, List.nil_append, List.drop_succ_cons, List.drop_zero] at hs1
        clear hs2
        refine To.run 44 ?_
        refine To.one (One.call 3 [0, 1] [2] (g := 58) (args := [Value.pointer (some { block := nb, off := 0 }), Value.int IntKind.i64 f, Value.int IntKind.i64 t]) (by kernel_rfl) hs1 (NLenI_no (nb) (4) (r) (f) (t) (B) (C) (fun x => []) (by assumption)) (by decide) rfl ?_)
        rintro _ _ w8 ⟨rfl, rfl⟩ hs2
        simp only [pickAll, List.filterMap_cons, List.filterMap_nil, List.getElem?_cons_zero, List.getElem?_cons_succ, List.cons_append, List.nil_append, List.drop_succ_cons, List.drop_zero] at hs2
        clear hs1
        refine To.run 4 ?_
        refine To.one (One.call 3 [0, 1] [2] (g := 57) (args := [Value.pointer (some { block := nb, off := 0 })]) (by kernel_rfl) hs2 (c7) (by decide) rfl ?_)
        rintro _ _ w9 ⟨rfl, rfl⟩ hs1
        simp only [pickAll, List.filterMap_cons, List.filterMap_nil, List.getElem?_cons_zero, List.getElem?_cons_succ, List.cons_append, List.nil_append, List.drop_succ_cons, List.drop_zero] at hs1
        clear hs2
        refine To.run 4 ?_
        refine To.retv Try.func10 (by kernel_rfl) (v := Value.bool true) (by kernel_rfl) ?_
        exact hs1.lawEnd 2 rfl
    · refine To.isFalse 38 (t := decide (f ≥ 1)) (by kernel_rfl) (by (simp; omega)) ?_
      refine To.run 25 ?_
      refine To.one (One.call 3 [0, 1] [2] (g := 56) (args := [Value.pointer (some { block := nb, off := 0 }), Value.int IntKind.i64 f, Value.int IntKind.i64 t, Value.int IntKind.i64 7]) (by kernel_rfl) hs2 (NSendI_no (nb) (4) (r) (f) (t) (B) (C) (fun x => []) (by assumption) (Value.int IntKind.i64 7)) (by decide) rfl ?_)
      rintro _ _ w3 ⟨rfl, rfl⟩ hs1
      simp only [pickAll, List.filterMap_cons, List.filterMap_nil, List.getElem?_cons_zero, List.getElem?_cons_succ, List.cons_append, List.nil_append, List.drop_succ_cons, List.drop_zero] at hs1
      clear hs2
      refine To.run 7 ?_
      refine To.one (One.call 3 [0, 1] [2] (g := 61) (args := [Value.pointer (some { block := nb, off := 0 }), Value.int IntKind.i64 f, Value.int IntKind.i64 t]) (by kernel_rfl) hs1 (NCopyI_no (nb) (4) (r) (f) (t) (B) (C) (fun x => []) (by assumption)) (by decide) rfl ?_)
      rintro _ _ w4 ⟨rfl, rfl⟩ hs2
      simp only [pickAll, List.filterMap_cons, List.filterMap_nil, List.getElem?_cons_zero, List.getElem?_cons_succ, List.cons_append, List.nil_append, List.drop_succ_cons, List.drop_zero] at hs2
      clear hs1
      refine To.run 7 ?_
      refine To.one (One.call 3 [0, 1] [2] (g := 60) (args := [Value.pointer (some { block := nb, off := 0 }), Value.int IntKind.i64 f, Value.int IntKind.i64 t]) (by kernel_rfl) hs2 (NTurnI_no (nb) (4) (r) (f) (t) (B) (C) (fun x => []) (by assumption)) (by decide) rfl ?_)
      rintro _ _ w5 ⟨rfl, rfl⟩ hs1
      simp only [pickAll, List.filterMap_cons, List.filterMap_nil, List.getElem?_cons_zero, List.getElem?_cons_succ, List.cons_append, List.nil_append, List.drop_succ_cons, List.drop_zero] at hs1
      clear hs2
      refine To.run 7 ?_
      refine To.one (One.call 3 [0, 1] [2] (g := 62) (args := [Value.pointer (some { block := nb, off := 0 }), Value.int IntKind.i64 f, Value.int IntKind.i64 t]) (by kernel_rfl) hs1 (NLoseI_no (nb) (4) (r) (f) (t) (B) (C) (fun x => []) (by assumption)) (by decide) rfl ?_)
      rintro _ _ w6 ⟨rfl, rfl⟩ hs2
      simp only [pickAll, List.filterMap_cons, List.filterMap_nil, List.getElem?_cons_zero, List.getElem?_cons_succ, List.cons_append, List.nil_append, List.drop_succ_cons, List.drop_zero] at hs2
      clear hs1
      refine To.run 7 ?_
      refine To.one (One.call 3 [0, 1] [2] (g := 59) (args := [Value.pointer (some { block := nb, off := 0 }), Value.int IntKind.i64 f, Value.int IntKind.i64 t]) (by kernel_rfl) hs2 (NTakeI_no (nb) (4) (r) (f) (t) (B) (C) (fun x => []) (by assumption)) (by decide) rfl ?_)
      rintro _ _ w7 ⟨rfl, rfl⟩ hs1
      simp only [pickAll, List.filterMap_cons, List.filterMap_nil, List.getElem?_cons_zero, List.getElem?_cons_succ, List.cons_append, List.nil_append, List.drop_succ_cons, List.drop_zero] at hs1
      clear hs2
      refine To.run 44 ?_
      refine To.one (One.call 3 [0, 1] [2] (g := 58) (args := [Value.pointer (some { block := nb, off := 0 }), Value.int IntKind.i64 f, Value.int IntKind.i64 t]) (by kernel_rfl) hs1 (NLenI_no (nb) (4) (r) (f) (t) (B) (C) (fun x => []) (by assumption)) (by decide) rfl ?_)
      rintro _ _ w8 ⟨rfl, rfl⟩ hs2
      simp only [pickAll, List.filterMap_cons, List.filterMap_nil, List.getElem?_cons_zero, List.getElem?_cons_succ, List.cons_append, List.nil_append, List.drop_succ_cons, List.drop_zero] at hs2
      clear hs1
      refine To.run 4 ?_
      refine To.one (One.call 3 [0, 1] [2] (g := 57) (args := [Value.pointer (some { block := nb, off := 0 })]) (by kernel_rfl) hs2 (c7) (by decide) rfl ?_)
      rintro _ _ w9 ⟨rfl, rfl⟩ hs1
      simp only [pickAll, List.filterMap_cons, List.filterMap_nil, List.getElem?_cons_zero, List.getElem?_cons_succ, List.cons_append, List.nil_append, List.drop_succ_cons, List.drop_zero] at hs1
      clear hs2
      refine To.run 4 ?_
      refine To.retv Try.func10 (by kernel_rfl) (v := Value.bool true) (by kernel_rfl) ?_
      exact hs1.lawEnd 2 rfl
end Go.Proofs.Ythojpcfaaiefhaa
