import Derived.Test.YthojpcfaaiefhaaProg
import Derived.Test.YthojpcfaaiefhaaSxLaw
import Derived.Test.YthojpcfaaiefhaaNops
set_option linter.unusedSimpArgs false
set_option linter.unusedVariables false
namespace Go.Proofs.Ythojpcfaaiefhaa
open Go Go.Sx
set_option linter.unusedSimpArgs false
set_option maxHeartbeats 0

theorem NNewS_dcs (dcs room : Int) (h : dcs < 1 ∨ 4 < dcs) : Trip Try.prog 40 [.int .i64 dcs, .int .i64 room] [] (fun v l => v = .tuple #[.pointer none, .int .i64 1] ∧ l = []) := by
  refine Trip.of Try.func40 (by kernel_rfl) fun E w L hs => ?_
  by_cases h1 : dcs < 1
  · simp only [List.cons_append, List.nil_append] at hs
    refine To.run 11 ?_
    refine To.isTrue 13 (t := decide (dcs < 1)) (by kernel_rfl) (by (simp; omega)) ?_
    refine To.run 10 ?_
    refine To.retv Try.func40 (by kernel_rfl) (v := Value.tuple #[Value.pointer none, Value.int IntKind.i64 1]) (by kernel_rfl) ?_
    exact ⟨_, _, rfl, ⟨rfl, rfl⟩, hs⟩
  · have h2 : 4 < dcs := by omega
    simp only [List.cons_append, List.nil_append] at hs
    refine To.run 11 ?_
    refine To.isFalse 13 (t := decide (dcs < 1)) (by kernel_rfl) (by (simp; omega)) ?_
    refine To.run 4 ?_
    refine To.isTrue 16 (t := decide (dcs > 4)) (by kernel_rfl) (by (simp; omega)) ?_
    refine To.run 6 ?_
    refine To.retv Try.func40 (by kernel_rfl) (v := Value.tuple #[Value.pointer none, Value.int IntKind.i64 1]) (by kernel_rfl) ?_
    exact ⟨_, _, rfl, ⟨rfl, rfl⟩, hs⟩

theorem NNewS_room (dcs room : Int) (h1 : 1 ≤ dcs) (h2 : dcs ≤ 4) (h : room < 1 ∨ 16 < room) : Trip Try.prog 40 [.int .i64 dcs, .int .i64 room] [] (fun v l => v = .tuple #[.pointer none, .int .i64 1] ∧ l = []) := by
  refine Trip.of Try.func40 (by kernel_rfl) fun E w L hs => ?_
  simp only [List.cons_append, List.nil_append] at hs
  refine To.run 11 ?_
  refine To.isFalse 13 (t := decide (dcs < 1)) (by kernel_rfl) (by (simp; omega)) ?_
  refine To.run 4 ?_
  refine To.isFalse 16 (t := decide (dcs > 4)) (by kernel_rfl) (by (simp; omega)) ?_
  refine To.run 6 ?_
  refine To.one (One.box (t := 119) (v := Value.agg #[Value.int IntKind.i64 dcs, Value.pointer none, Value.pointer none, Value.pointer none, Value.pointer none, Value.pointer none, Value.pointer none, Value.pointer none, Value.pointer none, Value.pointer none, Value.pointer none, Value.pointer none, Value.pointer none, Value.pointer none, Value.pointer none, Value.pointer none, Value.pointer none, Value.pointer none, Value.pointer none, Value.pointer none, Value.pointer none, Value.pointer none, Value.pointer none, Value.pointer none, Value.pointer none, Value.pointer none]) [Value.int IntKind.i64 dcs, Value.pointer none, Value.pointer none, Value.pointer none, Value.pointer none, Value.pointer none, Value.pointer none, Value.pointer none, Value.pointer none, Value.pointer none, Value.pointer none, Value.pointer none, Value.pointer none, Value.pointer none, Value.pointer none, Value.pointer none, Value.pointer none, Value.pointer none, Value.pointer none, Value.pointer none, Value.pointer none, Value.pointer none, Value.pointer none, Value.pointer none, Value.pointer none, Value.pointer none] hs (by kernel_rfl) (by kernel_rfl) fun b1 w1 hs1 => ?_)
  clear hs
  refine To.run 8 ?_
  refine To.run 1 ?_
  refine To.run 19 ?_
  refine To.run 1 ?_
  refine To.run 17 ?_
  refine To.one (One.call 1 [] [0] (g := 23) (args := [Value.int IntKind.i64 room]) (by kernel_rfl) hs1 (NewS_bad (room) (by assumption)) (by decide) rfl ?_)
  rintro _ _ w2 ⟨rfl, rfl⟩ hs2
  simp only [pickAll, List.filterMap_cons, List.filterMap_nil, List.getElem?_cons_zero, List.getElem?_cons_succ, List.cons_append, List.nil_append, List.drop_succ_cons, List.drop_zero] at hs2
  clear hs1
  refine To.run 19 ?_
  refine To.retv Try.func40 (by kernel_rfl) (v := Value.tuple #[Value.pointer none, Value.int IntKind.i64 1]) (by kernel_rfl) ?_
  exact ⟨_, _, rfl, ⟨rfl, rfl⟩, by first | exact hs1.sub (List.sublist_append_right [_] L) | exact hs2.sub (List.sublist_append_right [_] L)⟩

theorem newSDone {E w : World} {L : List Res} {nb R : Nat} {dcs : Int} {B C : Nat → Nat} {cells : List Value} (h : Sat E w (cel nb 119 cells :: lanes 25 106 R B C (fun _ => []) :: L)) (hc : cells = netCells dcs B) :
    Fins E L (fun v l => ∃ nb B C, v = .tuple #[.pointer (some ⟨nb, 0, none⟩), .int .i64 0] ∧ l = [cel nb 119 (netCells dcs B), lanes 25 106 R B C (fun _ => [])]) (.returned (.tuple #[.pointer (some ⟨nb, 0, none⟩), .int .i64 0])) w := by
  subst hc
  exact ⟨_, _, rfl, ⟨_, _, _, rfl, rfl⟩, h⟩

theorem NNewS_ok (dcs room : Int) (h1 : 1 ≤ dcs) (h2 : dcs ≤ 4) (h3 : 1 ≤ room) (h4 : room ≤ 16) : Trip Try.prog 40 [.int .i64 dcs, .int .i64 room] []
    (fun v l => ∃ nb B C, v = .tuple #[.pointer (some ⟨nb, 0, none⟩), .int .i64 0] ∧ l = [cel nb 119 (netCells dcs B), lanes 25 106 room.toNat B C (fun _ => [])]) := by
  refine Trip.of Try.func40 (by kernel_rfl) fun E w L hs0 => ?_
  simp only [List.nil_append] at hs0
  refine To.run 11 ?_
  refine To.isFalse 13 (t := decide (dcs < 1)) (by kernel_rfl) (by (simp; omega)) ?_
  refine To.run 4 ?_
  refine To.isFalse 16 (t := decide (dcs > 4)) (by kernel_rfl) (by (simp; omega)) ?_
  refine To.run 6 ?_
  refine To.one (One.box (t := 119) (v := Value.agg #[Value.int IntKind.i64 dcs, Value.pointer none, Value.pointer none, Value.pointer none, Value.pointer none, Value.pointer none, Value.pointer none, Value.pointer none, Value.pointer none, Value.pointer none, Value.pointer none, Value.pointer none, Value.pointer none, Value.pointer none, Value.pointer none, Value.pointer none, Value.pointer none, Value.pointer none, Value.pointer none, Value.pointer none, Value.pointer none, Value.pointer none, Value.pointer none, Value.pointer none, Value.pointer none, Value.pointer none]) [Value.int IntKind.i64 dcs, Value.pointer none, Value.pointer none, Value.pointer none, Value.pointer none, Value.pointer none, Value.pointer none, Value.pointer none, Value.pointer none, Value.pointer none, Value.pointer none, Value.pointer none, Value.pointer none, Value.pointer none, Value.pointer none, Value.pointer none, Value.pointer none, Value.pointer none, Value.pointer none, Value.pointer none, Value.pointer none, Value.pointer none, Value.pointer none, Value.pointer none, Value.pointer none, Value.pointer none] hs0 (by kernel_rfl) (by kernel_rfl) fun b1 w1 hs1 => ?_)
  clear hs0
  refine To.run 8 ?_
  have hs := Sat.laneNone (e := 106) (R := room.toNat) (B := fun _ => 0) (C := fun _ => 0) (X := fun _ => []) hs1
  clear hs1
  refine To.run 1 ?_
  refine To.at (fn := Try.f40) (n := 7) (l := [(1, Value.int IntKind.i64 room), (6, Value.pointer (some { block := b1, off := 0 })), (20, Value.int IntKind.i64 0)]) (by kernel_rfl) fun j => ?_
  refine To.run 19 ?_
  refine To.run 1 ?_
  refine To.at (fn := Try.f40) (n := 13) (l := [(1, Value.int IntKind.i64 room), (6, Value.pointer (some { block := b1, off := 0 })), (7, Value.int IntKind.i64 0), (20, Value.int IntKind.i64 0), (23, Value.int IntKind.i64 0)]) (by kernel_rfl) fun j => ?_
  refine To.run 17 ?_
  refine To.one (One.call 2 [] [0, 1] (g := 23) (args := [Value.int IntKind.i64 room]) (by kernel_rfl) hs (NewS_ok (room) (by assumption) (by assumption)) (by decide) rfl ?_)
  rintro _ _ w2 ⟨b, c, rfl, rfl⟩ hs1
  simp only [pickAll, List.filterMap_cons, List.filterMap_nil, List.getElem?_cons_zero, List.getElem?_cons_succ, List.cons_append, List.nil_append, List.drop_succ_cons, List.drop_zero] at hs1
  clear hs
  refine To.run 23 ?_
  refine To.one (One.store 2 (t := 43) (off := 1) (v := Value.pointer (some { block := b, off := 0 })) (vs' := [Value.int IntKind.i64 dcs, Value.pointer (some { block := b, off := 0 }), Value.pointer none, Value.pointer none, Value.pointer none, Value.pointer none, Value.pointer none, Value.pointer none, Value.pointer none, Value.pointer none, Value.pointer none, Value.pointer none, Value.pointer none, Value.pointer none, Value.pointer none, Value.pointer none, Value.pointer none, Value.pointer none, Value.pointer none, Value.pointer none, Value.pointer none, Value.pointer none, Value.pointer none, Value.pointer none, Value.pointer none, Value.pointer none]) hs1 rfl (by kernel_rfl) (by kernel_rfl) (by kernel_rfl) fun w3 hs2 => ?_)
  simp only [List.set_cons_zero, List.set_cons_succ] at hs2
  clear hs1
  refine To.run 6 ?_
  have hs := hs2.turn3.laneGrow
  clear hs2
  refine To.run 1 ?_
  refine To.at (fn := Try.f40) (n := 13) (l := [(1, Value.int IntKind.i64 room), (6, Value.pointer (some { block := b1, off := 0 })), (7, Value.int IntKind.i64 0), (20, Value.int IntKind.i64 0), (23, Value.int IntKind.i64 1)]) (by kernel_rfl) fun j => ?_
  refine To.run 17 ?_
  refine To.one (One.call 2 [] [0, 1] (g := 23) (args := [Value.int IntKind.i64 room]) (by kernel_rfl) hs (NewS_ok (room) (by assumption) (by assumption)) (by decide) rfl ?_)
  rintro _ _ w4 ⟨b2, c1, rfl, rfl⟩ hs1
  simp only [pickAll, List.filterMap_cons, List.filterMap_nil, List.getElem?_cons_zero, List.getElem?_cons_succ, List.cons_append, List.nil_append, List.drop_succ_cons, List.drop_zero] at hs1
  clear hs
  refine To.run 23 ?_
  refine To.one (One.store 2 (t := 43) (off := 2) (v := Value.pointer (some { block := b2, off := 0 })) (vs' := [Value.int IntKind.i64 dcs, Value.pointer (some { block := b, off := 0 }), Value.pointer (some { block := b2, off := 0 }), Value.pointer none, Value.pointer none, Value.pointer none, Value.pointer none, Value.pointer none, Value.pointer none, Value.pointer none, Value.pointer none, Value.pointer none, Value.pointer none, Value.pointer none, Value.pointer none, Value.pointer none, Value.pointer none, Value.pointer none, Value.pointer none, Value.pointer none, Value.pointer none, Value.pointer none, Value.pointer none, Value.pointer none, Value.pointer none, Value.pointer none]) hs1 rfl (by kernel_rfl) (by kernel_rfl) (by kernel_rfl) fun w5 hs2 => ?_)
  simp only [List.set_cons_zero, List.set_cons_succ] at hs2
  clear hs1
  refine To.run 6 ?_
  have hs := hs2.turn3.laneGrow
  clear hs2
  refine To.run 1 ?_
  refine To.at (fn := Try.f40) (n := 13) (l := [(1, Value.int IntKind.i64 room), (6, Value.pointer (some { block := b1, off := 0 })), (7, Value.int IntKind.i64 0), (20, Value.int IntKind.i64 0), (23, Value.int IntKind.i64 2)]) (by kernel_rfl) fun j => ?_
  refine To.run 17 ?_
  refine To.one (One.call 2 [] [0, 1] (g := 23) (args := [Value.int IntKind.i64 room]) (by kernel_rfl) hs (NewS_ok (room) (by assumption) (by assumption)) (by decide) rfl ?_)
  rintro _ _ w6 ⟨b3, c2, rfl, rfl⟩ hs1
  simp only [pickAll, List.filterMap_cons, List.filterMap_nil, List.getElem?_cons_zero, List.getElem?_cons_succ, List.cons_append, List.nil_append, List.drop_succ_cons, List.drop_zero] at hs1
  clear hs
  refine To.run 23 ?_
  refine To.one (One.store 2 (t := 43) (off := 3) (v := Value.pointer (some { block := b3, off := 0 })) (vs' := [Value.int IntKind.i64 dcs, Value.pointer (some { block := b, off := 0 }), Value.pointer (some { block := b2, off := 0 }), Value.pointer (some { block := b3, off := 0 }), Value.pointer none, Value.pointer none, Value.pointer none, Value.pointer none, Value.pointer none, Value.pointer none, Value.pointer none, Value.pointer none, Value.pointer none, Value.pointer none, Value.pointer none, Value.pointer none, Value.pointer none, Value.pointer none, Value.pointer none, Value.pointer none, Value.pointer none, Value.pointer none, Value.pointer none, Value.pointer none, Value.pointer none, Value.pointer none]) hs1 rfl (by kernel_rfl) (by kernel_rfl) (by kernel_rfl) fun w7 hs2 => ?_)
  simp only [List.set_cons_zero, List.set_cons_succ] at hs2
  clear hs1
  refine To.run 6 ?_
  have hs := hs2.turn3.laneGrow
  clear hs2
  refine To.run 1 ?_
  refine To.at (fn := Try.f40) (n := 13) (l := [(1, Value.int IntKind.i64 room), (6, Value.pointer (some { block := b1, off := 0 })), (7, Value.int IntKind.i64 0), (20, Value.int IntKind.i64 0), (23, Value.int IntKind.i64 3)]) (by kernel_rfl) fun j => ?_
  refine To.run 17 ?_
  refine To.one (One.call 2 [] [0, 1] (g := 23) (args := [Value.int IntKind.i64 room]) (by kernel_rfl) hs (NewS_ok (room) (by assumption) (by assumption)) (by decide) rfl ?_)
  rintro _ _ w8 ⟨b4, c3, rfl, rfl⟩ hs1
  simp only [pickAll, List.filterMap_cons, List.filterMap_nil, List.getElem?_cons_zero, List.getElem?_cons_succ, List.cons_append, List.nil_append, List.drop_succ_cons, List.drop_zero] at hs1
  clear hs
  refine To.run 23 ?_
  refine To.one (One.store 2 (t := 43) (off := 4) (v := Value.pointer (some { block := b4, off := 0 })) (vs' := [Value.int IntKind.i64 dcs, Value.pointer (some { block := b, off := 0 }), Value.pointer (some { block := b2, off := 0 }), Value.pointer (some { block := b3, off := 0 }), Value.pointer (some { block := b4, off := 0 }), Value.pointer none, Value.pointer none, Value.pointer none, Value.pointer none, Value.pointer none, Value.pointer none, Value.pointer none, Value.pointer none, Value.pointer none, Value.pointer none, Value.pointer none, Value.pointer none, Value.pointer none, Value.pointer none, Value.pointer none, Value.pointer none, Value.pointer none, Value.pointer none, Value.pointer none, Value.pointer none, Value.pointer none]) hs1 rfl (by kernel_rfl) (by kernel_rfl) (by kernel_rfl) fun w9 hs2 => ?_)
  simp only [List.set_cons_zero, List.set_cons_succ] at hs2
  clear hs1
  refine To.run 6 ?_
  have hs := hs2.turn3.laneGrow
  clear hs2
  refine To.run 1 ?_
  refine To.at (fn := Try.f40) (n := 13) (l := [(1, Value.int IntKind.i64 room), (6, Value.pointer (some { block := b1, off := 0 })), (7, Value.int IntKind.i64 0), (20, Value.int IntKind.i64 0), (23, Value.int IntKind.i64 4)]) (by kernel_rfl) fun j => ?_
  refine To.run 17 ?_
  refine To.one (One.call 2 [] [0, 1] (g := 23) (args := [Value.int IntKind.i64 room]) (by kernel_rfl) hs (NewS_ok (room) (by assumption) (by assumption)) (by decide) rfl ?_)
  rintro _ _ w10 ⟨b5, c4, rfl, rfl⟩ hs1
  simp only [pickAll, List.filterMap_cons, List.filterMap_nil, List.getElem?_cons_zero, List.getElem?_cons_succ, List.cons_append, List.nil_append, List.drop_succ_cons, List.drop_zero] at hs1
  clear hs
  refine To.run 23 ?_
  refine To.one (One.store 2 (t := 43) (off := 5) (v := Value.pointer (some { block := b5, off := 0 })) (vs' := [Value.int IntKind.i64 dcs, Value.pointer (some { block := b, off := 0 }), Value.pointer (some { block := b2, off := 0 }), Value.pointer (some { block := b3, off := 0 }), Value.pointer (some { block := b4, off := 0 }), Value.pointer (some { block := b5, off := 0 }), Value.pointer none, Value.pointer none, Value.pointer none, Value.pointer none, Value.pointer none, Value.pointer none, Value.pointer none, Value.pointer none, Value.pointer none, Value.pointer none, Value.pointer none, Value.pointer none, Value.pointer none, Value.pointer none, Value.pointer none, Value.pointer none, Value.pointer none, Value.pointer none, Value.pointer none, Value.pointer none]) hs1 rfl (by kernel_rfl) (by kernel_rfl) (by kernel_rfl) fun w11 hs2 => ?_)
  simp only [List.set_cons_zero, List.set_cons_succ] at hs2
  clear hs1
  refine To.run 6 ?_
  have hs := hs2.turn3.laneGrow
  clear hs2
  refine To.run 1 ?_
  refine To.at (fn := Try.f40) (n := 13) (l := [(1, Value.int IntKind.i64 room), (6, Value.pointer (some { block := b1, off := 0 })), (7, Value.int IntKind.i64 0), (20, Value.int IntKind.i64 0), (23, Value.int IntKind.i64 5)]) (by kernel_rfl) fun j => ?_
  refine To.run 12 ?_
  refine To.run 1 ?_
  refine To.at (fn := Try.f40) (n := 7) (l := [(1, Value.int IntKind.i64 room), (6, Value.pointer (some { block := b1, off := 0 })), (20, Value.int IntKind.i64 1)]) (by kernel_rfl) fun j => ?_
  refine To.run 19 ?_
  refine To.run 1 ?_
  refine To.at (fn := Try.f40) (n := 13) (l := [(1, Value.int IntKind.i64 room), (6, Value.pointer (some { block := b1, off := 0 })), (7, Value.int IntKind.i64 1), (20, Value.int IntKind.i64 1), (23, Value.int IntKind.i64 0)]) (by kernel_rfl) fun j => ?_
  refine To.run 17 ?_
  refine To.one (One.call 2 [] [0, 1] (g := 23) (args := [Value.int IntKind.i64 room]) (by kernel_rfl) hs (NewS_ok (room) (by assumption) (by assumption)) (by decide) rfl ?_)
  rintro _ _ w12 ⟨b6, c5, rfl, rfl⟩ hs1
  simp only [pickAll, List.filterMap_cons, List.filterMap_nil, List.getElem?_cons_zero, List.getElem?_cons_succ, List.cons_append, List.nil_append, List.drop_succ_cons, List.drop_zero] at hs1
  clear hs
  refine To.run 23 ?_
  refine To.one (One.store 2 (t := 43) (off := 6) (v := Value.pointer (some { block := b6, off := 0 })) (vs' := [Value.int IntKind.i64 dcs, Value.pointer (some { block := b, off := 0 }), Value.pointer (some { block := b2, off := 0 }), Value.pointer (some { block := b3, off := 0 }), Value.pointer (some { block := b4, off := 0 }), Value.pointer (some { block := b5, off := 0 }), Value.pointer (some { block := b6, off := 0 }), Value.pointer none, Value.pointer none, Value.pointer none, Value.pointer none, Value.pointer none, Value.pointer none, Value.pointer none, Value.pointer none, Value.pointer none, Value.pointer none, Value.pointer none, Value.pointer none, Value.pointer none, Value.pointer none, Value.pointer none, Value.pointer none, Value.pointer none, Value.pointer none, Value.pointer none]) hs1 rfl (by kernel_rfl) (by kernel_rfl) (by kernel_rfl) fun w13 hs2 => ?_)
  simp only [List.set_cons_zero, List.set_cons_succ] at hs2
  clear hs1
  refine To.run 6 ?_
  have hs := hs2.turn3.laneGrow
  clear hs2
  refine To.run 1 ?_
  refine To.at (fn := Try.f40) (n := 13) (l := [(1, Value.int IntKind.i64 room), (6, Value.pointer (some { block := b1, off := 0 })), (7, Value.int IntKind.i64 1), (20, Value.int IntKind.i64 1), (23, Value.int IntKind.i64 1)]) (by kernel_rfl) fun j => ?_
  refine To.run 17 ?_
  refine To.one (One.call 2 [] [0, 1] (g := 23) (args := [Value.int IntKind.i64 room]) (by kernel_rfl) hs (NewS_ok (room) (by assumption) (by assumption)) (by decide) rfl ?_)
  rintro _ _ w14 ⟨b7, c6, rfl, rfl⟩ hs1
  simp only [pickAll, List.filterMap_cons, List.filterMap_nil, List.getElem?_cons_zero, List.getElem?_cons_succ, List.cons_append, List.nil_append, List.drop_succ_cons, List.drop_zero] at hs1
  clear hs
  refine To.run 23 ?_
  refine To.one (One.store 2 (t := 43) (off := 7) (v := Value.pointer (some { block := b7, off := 0 })) (vs' := [Value.int IntKind.i64 dcs, Value.pointer (some { block := b, off := 0 }), Value.pointer (some { block := b2, off := 0 }), Value.pointer (some { block := b3, off := 0 }), Value.pointer (some { block := b4, off := 0 }), Value.pointer (some { block := b5, off := 0 }), Value.pointer (some { block := b6, off := 0 }), Value.pointer (some { block := b7, off := 0 }), Value.pointer none, Value.pointer none, Value.pointer none, Value.pointer none, Value.pointer none, Value.pointer none, Value.pointer none, Value.pointer none, Value.pointer none, Value.pointer none, Value.pointer none, Value.pointer none, Value.pointer none, Value.pointer none, Value.pointer none, Value.pointer none, Value.pointer none, Value.pointer none]) hs1 rfl (by kernel_rfl) (by kernel_rfl) (by kernel_rfl) fun w15 hs2 => ?_)
  simp only [List.set_cons_zero, List.set_cons_succ] at hs2
  clear hs1
  refine To.run 6 ?_
  have hs := hs2.turn3.laneGrow
  clear hs2
  refine To.run 1 ?_
  refine To.at (fn := Try.f40) (n := 13) (l := [(1, Value.int IntKind.i64 room), (6, Value.pointer (some { block := b1, off := 0 })), (7, Value.int IntKind.i64 1), (20, Value.int IntKind.i64 1), (23, Value.int IntKind.i64 2)]) (by kernel_rfl) fun j => ?_
  refine To.run 17 ?_
  refine To.one (One.call 2 [] [0, 1] (g := 23) (args := [Value.int IntKind.i64 room]) (by kernel_rfl) hs (NewS_ok (room) (by assumption) (by assumption)) (by decide) rfl ?_)
  rintro _ _ w16 ⟨b8, c7, rfl, rfl⟩ hs1
  simp only [pickAll, List.filterMap_cons, List.filterMap_nil, List.getElem?_cons_zero, List.getElem?_cons_succ, List.cons_append, List.nil_append, List.drop_succ_cons, List.drop_zero] at hs1
  clear hs
  refine To.run 23 ?_
  refine To.one (One.store 2 (t := 43) (off := 8) (v := Value.pointer (some { block := b8, off := 0 })) (vs' := [Value.int IntKind.i64 dcs, Value.pointer (some { block := b, off := 0 }), Value.pointer (some { block := b2, off := 0 }), Value.pointer (some { block := b3, off := 0 }), Value.pointer (some { block := b4, off := 0 }), Value.pointer (some { block := b5, off := 0 }), Value.pointer (some { block := b6, off := 0 }), Value.pointer (some { block := b7, off := 0 }), Value.pointer (some { block := b8, off := 0 }), Value.pointer none, Value.pointer none, Value.pointer none, Value.pointer none, Value.pointer none, Value.pointer none, Value.pointer none, Value.pointer none, Value.pointer none, Value.pointer none, Value.pointer none, Value.pointer none, Value.pointer none, Value.pointer none, Value.pointer none, Value.pointer none, Value.pointer none]) hs1 rfl (by kernel_rfl) (by kernel_rfl) (by kernel_rfl) fun w17 hs2 => ?_)
  simp only [List.set_cons_zero, List.set_cons_succ] at hs2
  clear hs1
  refine To.run 6 ?_
  have hs := hs2.turn3.laneGrow
  clear hs2
  refine To.run 1 ?_
  refine To.at (fn := Try.f40) (n := 13) (l := [(1, Value.int IntKind.i64 room), (6, Value.pointer (some { block := b1, off := 0 })), (7, Value.int IntKind.i64 1), (20, Value.int IntKind.i64 1), (23, Value.int IntKind.i64 3)]) (by kernel_rfl) fun j => ?_
  refine To.run 17 ?_
  refine To.one (One.call 2 [] [0, 1] (g := 23) (args := [Value.int IntKind.i64 room]) (by kernel_rfl) hs (NewS_ok (room) (by assumption) (by assumption)) (by decide) rfl ?_)
  rintro _ _ w18 ⟨b9, c8, rfl, rfl⟩ hs1
  simp only [pickAll, List.filterMap_cons, List.filterMap_nil, List.getElem?_cons_zero, List.getElem?_cons_succ, List.cons_append, List.nil_append, List.drop_succ_cons, List.drop_zero] at hs1
  clear hs
  refine To.run 23 ?_
  refine To.one (One.store 2 (t := 43) (off := 9) (v := Value.pointer (some { block := b9, off := 0 })) (vs' := [Value.int IntKind.i64 dcs, Value.pointer (some { block := b, off := 0 }), Value.pointer (some { block := b2, off := 0 }), Value.pointer (some { block := b3, off := 0 }), Value.pointer (some { block := b4, off := 0 }), Value.pointer (some { block := b5, off := 0 }), Value.pointer (some { block := b6, off := 0 }), Value.pointer (some { block := b7, off := 0 }), Value.pointer (some { block := b8, off := 0 }), Value.pointer (some { block := b9, off := 0 }), Value.pointer none, Value.pointer none, Value.pointer none, Value.pointer none, Value.pointer none, Value.pointer none, Value.pointer none, Value.pointer none, Value.pointer none, Value.pointer none, Value.pointer none, Value.pointer none, Value.pointer none, Value.pointer none, Value.pointer none, Value.pointer none]) hs1 rfl (by kernel_rfl) (by kernel_rfl) (by kernel_rfl) fun w19 hs2 => ?_)
  simp only [List.set_cons_zero, List.set_cons_succ] at hs2
  clear hs1
  refine To.run 6 ?_
  have hs := hs2.turn3.laneGrow
  clear hs2
  refine To.run 1 ?_
  refine To.at (fn := Try.f40) (n := 13) (l := [(1, Value.int IntKind.i64 room), (6, Value.pointer (some { block := b1, off := 0 })), (7, Value.int IntKind.i64 1), (20, Value.int IntKind.i64 1), (23, Value.int IntKind.i64 4)]) (by kernel_rfl) fun j => ?_
  refine To.run 17 ?_
  refine To.one (One.call 2 [] [0, 1] (g := 23) (args := [Value.int IntKind.i64 room]) (by kernel_rfl) hs (NewS_ok (room) (by assumption) (by assumption)) (by decide) rfl ?_)
  rintro _ _ w20 ⟨b10, c9, rfl, rfl⟩ hs1
  simp only [pickAll, List.filterMap_cons, List.filterMap_nil, List.getElem?_cons_zero, List.getElem?_cons_succ, List.cons_append, List.nil_append, List.drop_succ_cons, List.drop_zero] at hs1
  clear hs
  refine To.run 23 ?_
  refine To.one (One.store 2 (t := 43) (off := 10) (v := Value.pointer (some { block := b10, off := 0 })) (vs' := [Value.int IntKind.i64 dcs, Value.pointer (some { block := b, off := 0 }), Value.pointer (some { block := b2, off := 0 }), Value.pointer (some { block := b3, off := 0 }), Value.pointer (some { block := b4, off := 0 }), Value.pointer (some { block := b5, off := 0 }), Value.pointer (some { block := b6, off := 0 }), Value.pointer (some { block := b7, off := 0 }), Value.pointer (some { block := b8, off := 0 }), Value.pointer (some { block := b9, off := 0 }), Value.pointer (some { block := b10, off := 0 }), Value.pointer none, Value.pointer none, Value.pointer none, Value.pointer none, Value.pointer none, Value.pointer none, Value.pointer none, Value.pointer none, Value.pointer none, Value.pointer none, Value.pointer none, Value.pointer none, Value.pointer none, Value.pointer none, Value.pointer none]) hs1 rfl (by kernel_rfl) (by kernel_rfl) (by kernel_rfl) fun w21 hs2 => ?_)
  simp only [List.set_cons_zero, List.set_cons_succ] at hs2
  clear hs1
  refine To.run 6 ?_
  have hs := hs2.turn3.laneGrow
  clear hs2
  refine To.run 1 ?_
  refine To.at (fn := Try.f40) (n := 13) (l := [(1, Value.int IntKind.i64 room), (6, Value.pointer (some { block := b1, off := 0 })), (7, Value.int IntKind.i64 1), (20, Value.int IntKind.i64 1), (23, Value.int IntKind.i64 5)]) (by kernel_rfl) fun j => ?_
  refine To.run 12 ?_
  refine To.run 1 ?_
  refine To.at (fn := Try.f40) (n := 7) (l := [(1, Value.int IntKind.i64 room), (6, Value.pointer (some { block := b1, off := 0 })), (20, Value.int IntKind.i64 2)]) (by kernel_rfl) fun j => ?_
  refine To.run 19 ?_
  refine To.run 1 ?_
  refine To.at (fn := Try.f40) (n := 13) (l := [(1, Value.int IntKind.i64 room), (6, Value.pointer (some { block := b1, off := 0 })), (7, Value.int IntKind.i64 2), (20, Value.int IntKind.i64 2), (23, Value.int IntKind.i64 0)]) (by kernel_rfl) fun j => ?_
  refine To.run 17 ?_
  refine To.one (One.call 2 [] [0, 1] (g := 23) (args := [Value.int IntKind.i64 room]) (by kernel_rfl) hs (NewS_ok (room) (by assumption) (by assumption)) (by decide) rfl ?_)
  rintro _ _ w22 ⟨b11, c10, rfl, rfl⟩ hs1
  simp only [pickAll, List.filterMap_cons, List.filterMap_nil, List.getElem?_cons_zero, List.getElem?_cons_succ, List.cons_append, List.nil_append, List.drop_succ_cons, List.drop_zero] at hs1
  clear hs
  refine To.run 23 ?_
  refine To.one (One.store 2 (t := 43) (off := 11) (v := Value.pointer (some { block := b11, off := 0 })) (vs' := [Value.int IntKind.i64 dcs, Value.pointer (some { block := b, off := 0 }), Value.pointer (some { block := b2, off := 0 }), Value.pointer (some { block := b3, off := 0 }), Value.pointer (some { block := b4, off := 0 }), Value.pointer (some { block := b5, off := 0 }), Value.pointer (some { block := b6, off := 0 }), Value.pointer (some { block := b7, off := 0 }), Value.pointer (some { block := b8, off := 0 }), Value.pointer (some { block := b9, off := 0 }), Value.pointer (some { block := b10, off := 0 }), Value.pointer (some { block := b11, off := 0 }), Value.pointer none, Value.pointer none, Value.pointer none, Value.pointer none, Value.pointer none, Value.pointer none, Value.pointer none, Value.pointer none, Value.pointer none, Value.pointer none, Value.pointer none, Value.pointer none, Value.pointer none, Value.pointer none]) hs1 rfl (by kernel_rfl) (by kernel_rfl) (by kernel_rfl) fun w23 hs2 => ?_)
  simp only [List.set_cons_zero, List.set_cons_succ] at hs2
  clear hs1
  refine To.run 6 ?_
  have hs := hs2.turn3.laneGrow
  clear hs2
  refine To.run 1 ?_
  refine To.at (fn := Try.f40) (n := 13) (l := [(1, Value.int IntKind.i64 room), (6, Value.pointer (some { block := b1, off := 0 })), (7, Value.int IntKind.i64 2), (20, Value.int IntKind.i64 2), (23, Value.int IntKind.i64 1)]) (by kernel_rfl) fun j => ?_
  refine To.run 17 ?_
  refine To.one (One.call 2 [] [0, 1] (g := 23) (args := [Value.int IntKind.i64 room]) (by kernel_rfl) hs (NewS_ok (room) (by assumption) (by assumption)) (by decide) rfl ?_)
  rintro _ _ w24 ⟨b12, c11, rfl, rfl⟩ hs1
  simp only [pickAll, List.filterMap_cons, List.filterMap_nil, List.getElem?_cons_zero, List.getElem?_cons_succ, List.cons_append, List.nil_append, List.drop_succ_cons, List.drop_zero] at hs1
  clear hs
  refine To.run 23 ?_
  refine To.one (One.store 2 (t := 43) (off := 12) (v := Value.pointer (some { block := b12, off := 0 })) (vs' := [Value.int IntKind.i64 dcs, Value.pointer (some { block := b, off := 0 }), Value.pointer (some { block := b2, off := 0 }), Value.pointer (some { block := b3, off := 0 }), Value.pointer (some { block := b4, off := 0 }), Value.pointer (some { block := b5, off := 0 }), Value.pointer (some { block := b6, off := 0 }), Value.pointer (some { block := b7, off := 0 }), Value.pointer (some { block := b8, off := 0 }), Value.pointer (some { block := b9, off := 0 }), Value.pointer (some { block := b10, off := 0 }), Value.pointer (some { block := b11, off := 0 }), Value.pointer (some { block := b12, off := 0 }), Value.pointer none, Value.pointer none, Value.pointer none, Value.pointer none, Value.pointer none, Value.pointer none, Value.pointer none, Value.pointer none, Value.pointer none, Value.pointer none, Value.pointer none, Value.pointer none, Value.pointer none]) hs1 rfl (by kernel_rfl) (by kernel_rfl) (by kernel_rfl) fun w25 hs2 => ?_)
  simp only [List.set_cons_zero, List.set_cons_succ] at hs2
  clear hs1
  refine To.run 6 ?_
  have hs := hs2.turn3.laneGrow
  clear hs2
  refine To.run 1 ?_
  refine To.at (fn := Try.f40) (n := 13) (l := [(1, Value.int IntKind.i64 room), (6, Value.pointer (some { block := b1, off := 0 })), (7, Value.int IntKind.i64 2), (20, Value.int IntKind.i64 2), (23, Value.int IntKind.i64 2)]) (by kernel_rfl) fun j => ?_
  refine To.run 17 ?_
  refine To.one (One.call 2 [] [0, 1] (g := 23) (args := [Value.int IntKind.i64 room]) (by kernel_rfl) hs (NewS_ok (room) (by assumption) (by assumption)) (by decide) rfl ?_)
  rintro _ _ w26 ⟨b13, c12, rfl, rfl⟩ hs1
  simp only [pickAll, List.filterMap_cons, List.filterMap_nil, List.getElem?_cons_zero, List.getElem?_cons_succ, List.cons_append, List.nil_append, List.drop_succ_cons, List.drop_zero] at hs1
  clear hs
  refine To.run 23 ?_
  refine To.one (One.store 2 (t := 43) (off := 13) (v := Value.pointer (some { block := b13, off := 0 })) (vs' := [Value.int IntKind.i64 dcs, Value.pointer (some { block := b, off := 0 }), Value.pointer (some { block := b2, off := 0 }), Value.pointer (some { block := b3, off := 0 }), Value.pointer (some { block := b4, off := 0 }), Value.pointer (some { block := b5, off := 0 }), Value.pointer (some { block := b6, off := 0 }), Value.pointer (some { block := b7, off := 0 }), Value.pointer (some { block := b8, off := 0 }), Value.pointer (some { block := b9, off := 0 }), Value.pointer (some { block := b10, off := 0 }), Value.pointer (some { block := b11, off := 0 }), Value.pointer (some { block := b12, off := 0 }), Value.pointer (some { block := b13, off := 0 }), Value.pointer none, Value.pointer none, Value.pointer none, Value.pointer none, Value.pointer none, Value.pointer none, Value.pointer none, Value.pointer none, Value.pointer none, Value.pointer none, Value.pointer none, Value.pointer none]) hs1 rfl (by kernel_rfl) (by kernel_rfl) (by kernel_rfl) fun w27 hs2 => ?_)
  simp only [List.set_cons_zero, List.set_cons_succ] at hs2
  clear hs1
  refine To.run 6 ?_
  have hs := hs2.turn3.laneGrow
  clear hs2
  refine To.run 1 ?_
  refine To.at (fn := Try.f40) (n := 13) (l := [(1, Value.int IntKind.i64 room), (6, Value.pointer (some { block := b1, off := 0 })), (7, Value.int IntKind.i64 2), (20, Value.int IntKind.i64 2), (23, Value.int IntKind.i64 3)]) (by kernel_rfl) fun j => ?_
  refine To.run 17 ?_
  refine To.one (One.call 2 [] [0, 1] (g := 23) (args := [Value.int IntKind.i64 room]) (by kernel_rfl) hs (NewS_ok (room) (by assumption) (by assumption)) (by decide) rfl ?_)
  rintro _ _ w28 ⟨b14, c13, rfl, rfl⟩ hs1
  simp only [pickAll, List.filterMap_cons, List.filterMap_nil, List.getElem?_cons_zero, List.getElem?_cons_succ, List.cons_append, List.nil_append, List.drop_succ_cons, List.drop_zero] at hs1
  clear hs
  refine To.run 23 ?_
  refine To.one (One.store 2 (t := 43) (off := 14) (v := Value.pointer (some { block := b14, off := 0 })) (vs' := [Value.int IntKind.i64 dcs, Value.pointer (some { block := b, off := 0 }), Value.pointer (some { block := b2, off := 0 }), Value.pointer (some { block := b3, off := 0 }), Value.pointer (some { block := b4, off := 0 }), Value.pointer (some { block := b5, off := 0 }), Value.pointer (some { block := b6, off := 0 }), Value.pointer (some { block := b7, off := 0 }), Value.pointer (some { block := b8, off := 0 }), Value.pointer (some { block := b9, off := 0 }), Value.pointer (some { block := b10, off := 0 }), Value.pointer (some { block := b11, off := 0 }), Value.pointer (some { block := b12, off := 0 }), Value.pointer (some { block := b13, off := 0 }), Value.pointer (some { block := b14, off := 0 }), Value.pointer none, Value.pointer none, Value.pointer none, Value.pointer none, Value.pointer none, Value.pointer none, Value.pointer none, Value.pointer none, Value.pointer none, Value.pointer none, Value.pointer none]) hs1 rfl (by kernel_rfl) (by kernel_rfl) (by kernel_rfl) fun w29 hs2 => ?_)
  simp only [List.set_cons_zero, List.set_cons_succ] at hs2
  clear hs1
  refine To.run 6 ?_
  have hs := hs2.turn3.laneGrow
  clear hs2
  refine To.run 1 ?_
  refine To.at (fn := Try.f40) (n := 13) (l := [(1, Value.int IntKind.i64 room), (6, Value.pointer (some { block := b1, off := 0 })), (7, Value.int IntKind.i64 2), (20, Value.int IntKind.i64 2), (23, Value.int IntKind.i64 4)]) (by kernel_rfl) fun j => ?_
  refine To.run 17 ?_
  refine To.one (One.call 2 [] [0, 1] (g := 23) (args := [Value.int IntKind.i64 room]) (by kernel_rfl) hs (NewS_ok (room) (by assumption) (by assumption)) (by decide) rfl ?_)
  rintro _ _ w30 ⟨b15, c14, rfl, rfl⟩ hs1
  simp only [pickAll, List.filterMap_cons, List.filterMap_nil, List.getElem?_cons_zero, List.getElem?_cons_succ, List.cons_append, List.nil_append, List.drop_succ_cons, List.drop_zero] at hs1
  clear hs
  refine To.run 23 ?_
  refine To.one (One.store 2 (t := 43) (off := 15) (v := Value.pointer (some { block := b15, off := 0 })) (vs' := [Value.int IntKind.i64 dcs, Value.pointer (some { block := b, off := 0 }), Value.pointer (some { block := b2, off := 0 }), Value.pointer (some { block := b3, off := 0 }), Value.pointer (some { block := b4, off := 0 }), Value.pointer (some { block := b5, off := 0 }), Value.pointer (some { block := b6, off := 0 }), Value.pointer (some { block := b7, off := 0 }), Value.pointer (some { block := b8, off := 0 }), Value.pointer (some { block := b9, off := 0 }), Value.pointer (some { block := b10, off := 0 }), Value.pointer (some { block := b11, off := 0 }), Value.pointer (some { block := b12, off := 0 }), Value.pointer (some { block := b13, off := 0 }), Value.pointer (some { block := b14, off := 0 }), Value.pointer (some { block := b15, off := 0 }), Value.pointer none, Value.pointer none, Value.pointer none, Value.pointer none, Value.pointer none, Value.pointer none, Value.pointer none, Value.pointer none, Value.pointer none, Value.pointer none]) hs1 rfl (by kernel_rfl) (by kernel_rfl) (by kernel_rfl) fun w31 hs2 => ?_)
  simp only [List.set_cons_zero, List.set_cons_succ] at hs2
  clear hs1
  refine To.run 6 ?_
  have hs := hs2.turn3.laneGrow
  clear hs2
  refine To.run 1 ?_
  refine To.at (fn := Try.f40) (n := 13) (l := [(1, Value.int IntKind.i64 room), (6, Value.pointer (some { block := b1, off := 0 })), (7, Value.int IntKind.i64 2), (20, Value.int IntKind.i64 2), (23, Value.int IntKind.i64 5)]) (by kernel_rfl) fun j => ?_
  refine To.run 12 ?_
  refine To.run 1 ?_
  refine To.at (fn := Try.f40) (n := 7) (l := [(1, Value.int IntKind.i64 room), (6, Value.pointer (some { block := b1, off := 0 })), (20, Value.int IntKind.i64 3)]) (by kernel_rfl) fun j => ?_
  refine To.run 19 ?_
  refine To.run 1 ?_
  refine To.at (fn := Try.f40) (n := 13) (l := [(1, Value.int IntKind.i64 room), (6, Value.pointer (some { block := b1, off := 0 })), (7, Value.int IntKind.i64 3), (20, Value.int IntKind.i64 3), (23, Value.int IntKind.i64 0)]) (by kernel_rfl) fun j => ?_
  refine To.run 17 ?_
  refine To.one (One.call 2 [] [0, 1] (g := 23) (args := [Value.int IntKind.i64 room]) (by kernel_rfl) hs (NewS_ok (room) (by assumption) (by assumption)) (by decide) rfl ?_)
  rintro _ _ w32 ⟨b16, c15, rfl, rfl⟩ hs1
  simp only [pickAll, List.filterMap_cons, List.filterMap_nil, List.getElem?_cons_zero, List.getElem?_cons_succ, List.cons_append, List.nil_append, List.drop_succ_cons, List.drop_zero] at hs1
  clear hs
  refine To.run 23 ?_
  refine To.one (One.store 2 (t := 43) (off := 16) (v := Value.pointer (some { block := b16, off := 0 })) (vs' := [Value.int IntKind.i64 dcs, Value.pointer (some { block := b, off := 0 }), Value.pointer (some { block := b2, off := 0 }), Value.pointer (some { block := b3, off := 0 }), Value.pointer (some { block := b4, off := 0 }), Value.pointer (some { block := b5, off := 0 }), Value.pointer (some { block := b6, off := 0 }), Value.pointer (some { block := b7, off := 0 }), Value.pointer (some { block := b8, off := 0 }), Value.pointer (some { block := b9, off := 0 }), Value.pointer (some { block := b10, off := 0 }), Value.pointer (some { block := b11, off := 0 }), Value.pointer (some { block := b12, off := 0 }), Value.pointer (some { block := b13, off := 0 }), Value.pointer (some { block := b14, off := 0 }), Value.pointer (some { block := b15, off := 0 }), Value.pointer (some { block := b16, off := 0 }), Value.pointer none, Value.pointer none, Value.pointer none, Value.pointer none, Value.pointer none, Value.pointer none, Value.pointer none, Value.pointer none, Value.pointer none]) hs1 rfl (by kernel_rfl) (by kernel_rfl) (by kernel_rfl) fun w33 hs2 => ?_)
  simp only [List.set_cons_zero, List.set_cons_succ] at hs2
  clear hs1
  refine To.run 6 ?_
  have hs := hs2.turn3.laneGrow
  clear hs2
  refine To.run 1 ?_
  refine To.at (fn := Try.f40) (n := 13) (l := [(1, Value.int IntKind.i64 room), (6, Value.pointer (some { block := b1, off := 0 })), (7, Value.int IntKind.i64 3), (20, Value.int IntKind.i64 3), (23, Value.int IntKind.i64 1)]) (by kernel_rfl) fun j => ?_
  refine To.run 17 ?_
  refine To.one (One.call 2 [] [0, 1] (g := 23) (args := [Value.int IntKind.i64 room]) (by kernel_rfl) hs (NewS_ok (room) (by assumption) (by assumption)) (by decide) rfl ?_)
  rintro _ _ w34 ⟨b17, c16, rfl, rfl⟩ hs1
  simp only [pickAll, List.filterMap_cons, List.filterMap_nil, List.getElem?_cons_zero, List.getElem?_cons_succ, List.cons_append, List.nil_append, List.drop_succ_cons, List.drop_zero] at hs1
  clear hs
  refine To.run 23 ?_
  refine To.one (One.store 2 (t := 43) (off := 17) (v := Value.pointer (some { block := b17, off := 0 })) (vs' := [Value.int IntKind.i64 dcs, Value.pointer (some { block := b, off := 0 }), Value.pointer (some { block := b2, off := 0 }), Value.pointer (some { block := b3, off := 0 }), Value.pointer (some { block := b4, off := 0 }), Value.pointer (some { block := b5, off := 0 }), Value.pointer (some { block := b6, off := 0 }), Value.pointer (some { block := b7, off := 0 }), Value.pointer (some { block := b8, off := 0 }), Value.pointer (some { block := b9, off := 0 }), Value.pointer (some { block := b10, off := 0 }), Value.pointer (some { block := b11, off := 0 }), Value.pointer (some { block := b12, off := 0 }), Value.pointer (some { block := b13, off := 0 }), Value.pointer (some { block := b14, off := 0 }), Value.pointer (some { block := b15, off := 0 }), Value.pointer (some { block := b16, off := 0 }), Value.pointer (some { block := b17, off := 0 }), Value.pointer none, Value.pointer none, Value.pointer none, Value.pointer none, Value.pointer none, Value.pointer none, Value.pointer none, Value.pointer none]) hs1 rfl (by kernel_rfl) (by kernel_rfl) (by kernel_rfl) fun w35 hs2 => ?_)
  simp only [List.set_cons_zero, List.set_cons_succ] at hs2
  clear hs1
  refine To.run 6 ?_
  have hs := hs2.turn3.laneGrow
  clear hs2
  refine To.run 1 ?_
  refine To.at (fn := Try.f40) (n := 13) (l := [(1, Value.int IntKind.i64 room), (6, Value.pointer (some { block := b1, off := 0 })), (7, Value.int IntKind.i64 3), (20, Value.int IntKind.i64 3), (23, Value.int IntKind.i64 2)]) (by kernel_rfl) fun j => ?_
  refine To.run 17 ?_
  refine To.one (One.call 2 [] [0, 1] (g := 23) (args := [Value.int IntKind.i64 room]) (by kernel_rfl) hs (NewS_ok (room) (by assumption) (by assumption)) (by decide) rfl ?_)
  rintro _ _ w36 ⟨b18, c17, rfl, rfl⟩ hs1
  simp only [pickAll, List.filterMap_cons, List.filterMap_nil, List.getElem?_cons_zero, List.getElem?_cons_succ, List.cons_append, List.nil_append, List.drop_succ_cons, List.drop_zero] at hs1
  clear hs
  refine To.run 23 ?_
  refine To.one (One.store 2 (t := 43) (off := 18) (v := Value.pointer (some { block := b18, off := 0 })) (vs' := [Value.int IntKind.i64 dcs, Value.pointer (some { block := b, off := 0 }), Value.pointer (some { block := b2, off := 0 }), Value.pointer (some { block := b3, off := 0 }), Value.pointer (some { block := b4, off := 0 }), Value.pointer (some { block := b5, off := 0 }), Value.pointer (some { block := b6, off := 0 }), Value.pointer (some { block := b7, off := 0 }), Value.pointer (some { block := b8, off := 0 }), Value.pointer (some { block := b9, off := 0 }), Value.pointer (some { block := b10, off := 0 }), Value.pointer (some { block := b11, off := 0 }), Value.pointer (some { block := b12, off := 0 }), Value.pointer (some { block := b13, off := 0 }), Value.pointer (some { block := b14, off := 0 }), Value.pointer (some { block := b15, off := 0 }), Value.pointer (some { block := b16, off := 0 }), Value.pointer (some { block := b17, off := 0 }), Value.pointer (some { block := b18, off := 0 }), Value.pointer none, Value.pointer none, Value.pointer none, Value.pointer none, Value.pointer none, Value.pointer none, Value.pointer none]) hs1 rfl (by kernel_rfl) (by kernel_rfl) (by kernel_rfl) fun w37 hs2 => ?_)
  simp only [List.set_cons_zero, List.set_cons_succ] at hs2
  clear hs1
  refine To.run 6 ?_
  have hs := hs2.turn3.laneGrow
  clear hs2
  refine To.run 1 ?_
  refine To.at (fn := Try.f40) (n := 13) (l := [(1, Value.int IntKind.i64 room), (6, Value.pointer (some { block := b1, off := 0 })), (7, Value.int IntKind.i64 3), (20, Value.int IntKind.i64 3), (23, Value.int IntKind.i64 3)]) (by kernel_rfl) fun j => ?_
  refine To.run 17 ?_
  refine To.one (One.call 2 [] [0, 1] (g := 23) (args := [Value.int IntKind.i64 room]) (by kernel_rfl) hs (NewS_ok (room) (by assumption) (by assumption)) (by decide) rfl ?_)
  rintro _ _ w38 ⟨b19, c18, rfl, rfl⟩ hs1
  simp only [pickAll, List.filterMap_cons, List.filterMap_nil, List.getElem?_cons_zero, List.getElem?_cons_succ, List.cons_append, List.nil_append, List.drop_succ_cons, List.drop_zero] at hs1
  clear hs
  refine To.run 23 ?_
  refine To.one (One.store 2 (t := 43) (off := 19) (v := Value.pointer (some { block := b19, off := 0 })) (vs' := [Value.int IntKind.i64 dcs, Value.pointer (some { block := b, off := 0 }), Value.pointer (some { block := b2, off := 0 }), Value.pointer (some { block := b3, off := 0 }), Value.pointer (some { block := b4, off := 0 }), Value.pointer (some { block := b5, off := 0 }), Value.pointer (some { block := b6, off := 0 }), Value.pointer (some { block := b7, off := 0 }), Value.pointer (some { block := b8, off := 0 }), Value.pointer (some { block := b9, off := 0 }), Value.pointer (some { block := b10, off := 0 }), Value.pointer (some { block := b11, off := 0 }), Value.pointer (some { block := b12, off := 0 }), Value.pointer (some { block := b13, off := 0 }), Value.pointer (some { block := b14, off := 0 }), Value.pointer (some { block := b15, off := 0 }), Value.pointer (some { block := b16, off := 0 }), Value.pointer (some { block := b17, off := 0 }), Value.pointer (some { block := b18, off := 0 }), Value.pointer (some { block := b19, off := 0 }), Value.pointer none, Value.pointer none, Value.pointer none, Value.pointer none, Value.pointer none, Value.pointer none]) hs1 rfl (by kernel_rfl) (by kernel_rfl) (by kernel_rfl) fun w39 hs2 => ?_)
  simp only [List.set_cons_zero, List.set_cons_succ] at hs2
  clear hs1
  refine To.run 6 ?_
  have hs := hs2.turn3.laneGrow
  clear hs2
  refine To.run 1 ?_
  refine To.at (fn := Try.f40) (n := 13) (l := [(1, Value.int IntKind.i64 room), (6, Value.pointer (some { block := b1, off := 0 })), (7, Value.int IntKind.i64 3), (20, Value.int IntKind.i64 3), (23, Value.int IntKind.i64 4)]) (by kernel_rfl) fun j => ?_
  refine To.run 17 ?_
  refine To.one (One.call 2 [] [0, 1] (g := 23) (args := [Value.int IntKind.i64 room]) (by kernel_rfl) hs (NewS_ok (room) (by assumption) (by assumption)) (by decide) rfl ?_)
  rintro _ _ w40 ⟨b20, c19, rfl, rfl⟩ hs1
  simp only [pickAll, List.filterMap_cons, List.filterMap_nil, List.getElem?_cons_zero, List.getElem?_cons_succ, List.cons_append, List.nil_append, List.drop_succ_cons, List.drop_zero] at hs1
  clear hs
  refine To.run 23 ?_
  refine To.one (One.store 2 (t := 43) (off := 20) (v := Value.pointer (some { block := b20, off := 0 })) (vs' := [Value.int IntKind.i64 dcs, Value.pointer (some { block := b, off := 0 }), Value.pointer (some { block := b2, off := 0 }), Value.pointer (some { block := b3, off := 0 }), Value.pointer (some { block := b4, off := 0 }), Value.pointer (some { block := b5, off := 0 }), Value.pointer (some { block := b6, off := 0 }), Value.pointer (some { block := b7, off := 0 }), Value.pointer (some { block := b8, off := 0 }), Value.pointer (some { block := b9, off := 0 }), Value.pointer (some { block := b10, off := 0 }), Value.pointer (some { block := b11, off := 0 }), Value.pointer (some { block := b12, off := 0 }), Value.pointer (some { block := b13, off := 0 }), Value.pointer (some { block := b14, off := 0 }), Value.pointer (some { block := b15, off := 0 }), Value.pointer (some { block := b16, off := 0 }), Value.pointer (some { block := b17, off := 0 }), Value.pointer (some { block := b18, off := 0 }), Value.pointer (some { block := b19, off := 0 }), Value.pointer (some { block := b20, off := 0 }), Value.pointer none, Value.pointer none, Value.pointer none, Value.pointer none, Value.pointer none]) hs1 rfl (by kernel_rfl) (by kernel_rfl) (by kernel_rfl) fun w41 hs2 => ?_)
  simp only [List.set_cons_zero, List.set_cons_succ] at hs2
  clear hs1
  refine To.run 6 ?_
  have hs := hs2.turn3.laneGrow
  clear hs2
  refine To.run 1 ?_
  refine To.at (fn := Try.f40) (n := 13) (l := [(1, Value.int IntKind.i64 room), (6, Value.pointer (some { block := b1, off := 0 })), (7, Value.int IntKind.i64 3), (20, Value.int IntKind.i64 3), (23, Value.int IntKind.i64 5)]) (by kernel_rfl) fun j => ?_
  refine To.run 12 ?_
  refine To.run 1 ?_
  refine To.at (fn := Try.f40) (n := 7) (l := [(1, Value.int IntKind.i64 room), (6, Value.pointer (some { block := b1, off := 0 })), (20, Value.int IntKind.i64 4)]) (by kernel_rfl) fun j => ?_
  refine To.run 19 ?_
  refine To.run 1 ?_
  refine To.at (fn := Try.f40) (n := 13) (l := [(1, Value.int IntKind.i64 room), (6, Value.pointer (some { block := b1, off := 0 })), (7, Value.int IntKind.i64 4), (20, Value.int IntKind.i64 4), (23, Value.int IntKind.i64 0)]) (by kernel_rfl) fun j => ?_
  refine To.run 17 ?_
  refine To.one (One.call 2 [] [0, 1] (g := 23) (args := [Value.int IntKind.i64 room]) (by kernel_rfl) hs (NewS_ok (room) (by assumption) (by assumption)) (by decide) rfl ?_)
  rintro _ _ w42 ⟨b21, c20, rfl, rfl⟩ hs1
  simp only [pickAll, List.filterMap_cons, List.filterMap_nil, List.getElem?_cons_zero, List.getElem?_cons_succ, List.cons_append, List.nil_append, List.drop_succ_cons, List.drop_zero] at hs1
  clear hs
  refine To.run 23 ?_
  refine To.one (One.store 2 (t := 43) (off := 21) (v := Value.pointer (some { block := b21, off := 0 })) (vs' := [Value.int IntKind.i64 dcs, Value.pointer (some { block := b, off := 0 }), Value.pointer (some { block := b2, off := 0 }), Value.pointer (some { block := b3, off := 0 }), Value.pointer (some { block := b4, off := 0 }), Value.pointer (some { block := b5, off := 0 }), Value.pointer (some { block := b6, off := 0 }), Value.pointer (some { block := b7, off := 0 }), Value.pointer (some { block := b8, off := 0 }), Value.pointer (some { block := b9, off := 0 }), Value.pointer (some { block := b10, off := 0 }), Value.pointer (some { block := b11, off := 0 }), Value.pointer (some { block := b12, off := 0 }), Value.pointer (some { block := b13, off := 0 }), Value.pointer (some { block := b14, off := 0 }), Value.pointer (some { block := b15, off := 0 }), Value.pointer (some { block := b16, off := 0 }), Value.pointer (some { block := b17, off := 0 }), Value.pointer (some { block := b18, off := 0 }), Value.pointer (some { block := b19, off := 0 }), Value.pointer (some { block := b20, off := 0 }), Value.pointer (some { block := b21, off := 0 }), Value.pointer none, Value.pointer none, Value.pointer none, Value.pointer none]) hs1 rfl (by kernel_rfl) (by kernel_rfl) (by kernel_rfl) fun w43 hs2 => ?_)
  simp only [List.set_cons_zero, List.set_cons_succ] at hs2
  clear hs1
  refine To.run 6 ?_
  have hs := hs2.turn3.laneGrow
  clear hs2
  refine To.run 1 ?_
  refine To.at (fn := Try.f40) (n := 13) (l := [(1, Value.int IntKind.i64 room), (6, Value.pointer (some { block := b1, off := 0 })), (7, Value.int IntKind.i64 4), (20, Value.int IntKind.i64 4), (23, Value.int IntKind.i64 1)]) (by kernel_rfl) fun j => ?_
  refine To.run 17 ?_
  refine To.one (One.call 2 [] [0, 1] (g := 23) (args := [Value.int IntKind.i64 room]) (by kernel_rfl) hs (NewS_ok (room) (by assumption) (by assumption)) (by decide) rfl ?_)
  rintro _ _ w44 ⟨b22, c21, rfl, rfl⟩ hs1
  simp only [pickAll, List.filterMap_cons, List.filterMap_nil, List.getElem?_cons_zero, List.getElem?_cons_succ, List.cons_append, List.nil_append, List.drop_succ_cons, List.drop_zero] at hs1
  clear hs
  refine To.run 23 ?_
  refine To.one (One.store 2 (t := 43) (off := 22) (v := Value.pointer (some { block := b22, off := 0 })) (vs' := [Value.int IntKind.i64 dcs, Value.pointer (some { block := b, off := 0 }), Value.pointer (some { block := b2, off := 0 }), Value.pointer (some { block := b3, off := 0 }), Value.pointer (some { block := b4, off := 0 }), Value.pointer (some { block := b5, off := 0 }), Value.pointer (some { block := b6, off := 0 }), Value.pointer (some { block := b7, off := 0 }), Value.pointer (some { block := b8, off := 0 }), Value.pointer (some { block := b9, off := 0 }), Value.pointer (some { block := b10, off := 0 }), Value.pointer (some { block := b11, off := 0 }), Value.pointer (some { block := b12, off := 0 }), Value.pointer (some { block := b13, off := 0 }), Value.pointer (some { block := b14, off := 0 }), Value.pointer (some { block := b15, off := 0 }), Value.pointer (some { block := b16, off := 0 }), Value.pointer (some { block := b17, off := 0 }), Value.pointer (some { block := b18, off := 0 }), Value.pointer (some { block := b19, off := 0 }), Value.pointer (some { block := b20, off := 0 }), Value.pointer (some { block := b21, off := 0 }), Value.pointer (some { block := b22, off := 0 }), Value.pointer none, Value.pointer none, Value.pointer none]) hs1 rfl (by kernel_rfl) (by kernel_rfl) (by kernel_rfl) fun w45 hs2 => ?_)
  simp only [List.set_cons_zero, List.set_cons_succ] at hs2
  clear hs1
  refine To.run 6 ?_
  have hs := hs2.turn3.laneGrow
  clear hs2
  refine To.run 1 ?_
  refine To.at (fn := Try.f40) (n := 13) (l := [(1, Value.int IntKind.i64 room), (6, Value.pointer (some { block := b1, off := 0 })), (7, Value.int IntKind.i64 4), (20, Value.int IntKind.i64 4), (23, Value.int IntKind.i64 2)]) (by kernel_rfl) fun j => ?_
  refine To.run 17 ?_
  refine To.one (One.call 2 [] [0, 1] (g := 23) (args := [Value.int IntKind.i64 room]) (by kernel_rfl) hs (NewS_ok (room) (by assumption) (by assumption)) (by decide) rfl ?_)
  rintro _ _ w46 ⟨b23, c22, rfl, rfl⟩ hs1
  simp only [pickAll, List.filterMap_cons, List.filterMap_nil, List.getElem?_cons_zero, List.getElem?_cons_succ, List.cons_append, List.nil_append, List.drop_succ_cons, List.drop_zero] at hs1
  clear hs
  refine To.run 23 ?_
  refine To.one (One.store 2 (t := 43) (off := 23) (v := Value.pointer (some { block := b23, off := 0 })) (vs' := [Value.int IntKind.i64 dcs, Value.pointer (some { block := b, off := 0 }), Value.pointer (some { block := b2, off := 0 }), Value.pointer (some { block := b3, off := 0 }), Value.pointer (some { block := b4, off := 0 }), Value.pointer (some { block := b5, off := 0 }), Value.pointer (some { block := b6, off := 0 }), Value.pointer (some { block := b7, off := 0 }), Value.pointer (some { block := b8, off := 0 }), Value.pointer (some { block := b9, off := 0 }), Value.pointer (some { block := b10, off := 0 }), Value.pointer (some { block := b11, off := 0 }), Value.pointer (some { block := b12, off := 0 }), Value.pointer (some { block := b13, off := 0 }), Value.pointer (some { block := b14, off := 0 }), Value.pointer (some { block := b15, off := 0 }), Value.pointer (some { block := b16, off := 0 }), Value.pointer (some { block := b17, off := 0 }), Value.pointer (some { block := b18, off := 0 }), Value.pointer (some { block := b19, off := 0 }), Value.pointer (some { block := b20, off := 0 }), Value.pointer (some { block := b21, off := 0 }), Value.pointer (some { block := b22, off := 0 }), Value.pointer (some { block := b23, off := 0 }), Value.pointer none, Value.pointer none]) hs1 rfl (by kernel_rfl) (by kernel_rfl) (by kernel_rfl) fun w47 hs2 => ?_)
  simp only [List.set_cons_zero, List.set_cons_succ] at hs2
  clear hs1
  refine To.run 6 ?_
  have hs := hs2.turn3.laneGrow
  clear hs2
  refine To.run 1 ?_
  refine To.at (fn := Try.f40) (n := 13) (l := [(1, Value.int IntKind.i64 room), (6, Value.pointer (some { block := b1, off := 0 })), (7, Value.int IntKind.i64 4), (20, Value.int IntKind.i64 4), (23, Value.int IntKind.i64 3)]) (by kernel_rfl) fun j => ?_
  refine To.run 17 ?_
  refine To.one (One.call 2 [] [0, 1] (g := 23) (args := [Value.int IntKind.i64 room]) (by kernel_rfl) hs (NewS_ok (room) (by assumption) (by assumption)) (by decide) rfl ?_)
  rintro _ _ w48 ⟨b24, c23, rfl, rfl⟩ hs1
  simp only [pickAll, List.filterMap_cons, List.filterMap_nil, List.getElem?_cons_zero, List.getElem?_cons_succ, List.cons_append, List.nil_append, List.drop_succ_cons, List.drop_zero] at hs1
  clear hs
  refine To.run 23 ?_
  refine To.one (One.store 2 (t := 43) (off := 24) (v := Value.pointer (some { block := b24, off := 0 })) (vs' := [Value.int IntKind.i64 dcs, Value.pointer (some { block := b, off := 0 }), Value.pointer (some { block := b2, off := 0 }), Value.pointer (some { block := b3, off := 0 }), Value.pointer (some { block := b4, off := 0 }), Value.pointer (some { block := b5, off := 0 }), Value.pointer (some { block := b6, off := 0 }), Value.pointer (some { block := b7, off := 0 }), Value.pointer (some { block := b8, off := 0 }), Value.pointer (some { block := b9, off := 0 }), Value.pointer (some { block := b10, off := 0 }), Value.pointer (some { block := b11, off := 0 }), Value.pointer (some { block := b12, off := 0 }), Value.pointer (some { block := b13, off := 0 }), Value.pointer (some { block := b14, off := 0 }), Value.pointer (some { block := b15, off := 0 }), Value.pointer (some { block := b16, off := 0 }), Value.pointer (some { block := b17, off := 0 }), Value.pointer (some { block := b18, off := 0 }), Value.pointer (some { block := b19, off := 0 }), Value.pointer (some { block := b20, off := 0 }), Value.pointer (some { block := b21, off := 0 }), Value.pointer (some { block := b22, off := 0 }), Value.pointer (some { block := b23, off := 0 }), Value.pointer (some { block := b24, off := 0 }), Value.pointer none]) hs1 rfl (by kernel_rfl) (by kernel_rfl) (by kernel_rfl) fun w49 hs2 => ?_)
  simp only [List.set_cons_zero, List.set_cons_succ] at hs2
  clear hs1
  refine To.run 6 ?_
  have hs := hs2.turn3.laneGrow
  clear hs2
  refine To.run 1 ?_
  refine To.at (fn := Try.f40) (n := 13) (l := [(1, Value.int IntKind.i64 room), (6, Value.pointer (some { block := b1, off := 0 })), (7, Value.int IntKind.i64 4), (20, Value.int IntKind.i64 4), (23, Value.int IntKind.i64 4)]) (by kernel_rfl) fun j => ?_
  refine To.run 17 ?_
  refine To.one (One.call 2 [] [0, 1] (g := 23) (args := [Value.int IntKind.i64 room]) (by kernel_rfl) hs (NewS_ok (room) (by assumption) (by assumption)) (by decide) rfl ?_)
  rintro _ _ w50 ⟨b25, c24, rfl, rfl⟩ hs1
  simp only [pickAll, List.filterMap_cons, List.filterMap_nil, List.getElem?_cons_zero, List.getElem?_cons_succ, List.cons_append, List.nil_append, List.drop_succ_cons, List.drop_zero] at hs1
  clear hs
  refine To.run 23 ?_
  refine To.one (One.store 2 (t := 43) (off := 25) (v := Value.pointer (some { block := b25, off := 0 })) (vs' := [Value.int IntKind.i64 dcs, Value.pointer (some { block := b, off := 0 }), Value.pointer (some { block := b2, off := 0 }), Value.pointer (some { block := b3, off := 0 }), Value.pointer (some { block := b4, off := 0 }), Value.pointer (some { block := b5, off := 0 }), Value.pointer (some { block := b6, off := 0 }), Value.pointer (some { block := b7, off := 0 }), Value.pointer (some { block := b8, off := 0 }), Value.pointer (some { block := b9, off := 0 }), Value.pointer (some { block := b10, off := 0 }), Value.pointer (some { block := b11, off := 0 }), Value.pointer (some { block := b12, off := 0 }), Value.pointer (some { block := b13, off := 0 }), Value.pointer (some { block := b14, off := 0 }), Value.pointer (some { block := b15, off := 0 }), Value.pointer (some { block := b16, off := 0 }), Value.pointer (some { block := b17, off := 0 }), Value.pointer (some { block := b18, off := 0 }), Value.pointer (some { block := b19, off := 0 }), Value.pointer (some { block := b20, off := 0 }), Value.pointer (some { block := b21, off := 0 }), Value.pointer (some { block := b22, off := 0 }), Value.pointer (some { block := b23, off := 0 }), Value.pointer (some { block := b24, off := 0 }), Value.pointer (some { block := b25, off := 0 })]) hs1 rfl (by kernel_rfl) (by kernel_rfl) (by kernel_rfl) fun w51 hs2 => ?_)
  simp only [List.set_cons_zero, List.set_cons_succ] at hs2
  clear hs1
  refine To.run 6 ?_
  have hs := hs2.turn3.laneGrow
  clear hs2
  refine To.run 1 ?_
  refine To.at (fn := Try.f40) (n := 13) (l := [(1, Value.int IntKind.i64 room), (6, Value.pointer (some { block := b1, off := 0 })), (7, Value.int IntKind.i64 4), (20, Value.int IntKind.i64 4), (23, Value.int IntKind.i64 5)]) (by kernel_rfl) fun j => ?_
  refine To.run 12 ?_
  refine To.run 1 ?_
  refine To.at (fn := Try.f40) (n := 7) (l := [(1, Value.int IntKind.i64 room), (6, Value.pointer (some { block := b1, off := 0 })), (20, Value.int IntKind.i64 5)]) (by kernel_rfl) fun j => ?_
  refine To.run 13 ?_
  refine To.retv Try.func40 (by kernel_rfl) (v := Value.tuple #[Value.pointer (some { block := b1, off := 0 }), Value.int IntKind.i64 0]) (by kernel_rfl) ?_
  exact newSDone hs rfl

theorem NNewI_dcs (dcs room : Int) (h : dcs < 1 ∨ 4 < dcs) : Trip Try.prog 55 [.int .i64 dcs, .int .i64 room] [] (fun v l => v = .tuple #[.pointer none, .int .i64 1] ∧ l = []) := by
  refine Trip.of Try.func55 (by kernel_rfl) fun E w L hs => ?_
  by_cases h1 : dcs < 1
  · simp only [List.cons_append, List.nil_append] at hs
    refine To.run 11 ?_
    refine To.isTrue 13 (t := decide (dcs < 1)) (by kernel_rfl) (by (simp; omega)) ?_
    refine To.run 10 ?_
    refine To.retv Try.func55 (by kernel_rfl) (v := Value.tuple #[Value.pointer none, Value.int IntKind.i64 1]) (by kernel_rfl) ?_
    exact ⟨_, _, rfl, ⟨rfl, rfl⟩, hs⟩
  · have h2 : 4 < dcs := by omega
    simp only [List.cons_append, List.nil_append] at hs
    refine To.run 11 ?_
    refine To.isFalse 13 (t := decide (dcs < 1)) (by kernel_rfl) (by (simp; omega)) ?_
    refine To.run 4 ?_
    refine To.isTrue 16 (t := decide (dcs > 4)) (by kernel_rfl) (by (simp; omega)) ?_
    refine To.run 6 ?_
    refine To.retv Try.func55 (by kernel_rfl) (v := Value.tuple #[Value.pointer none, Value.int IntKind.i64 1]) (by kernel_rfl) ?_
    exact ⟨_, _, rfl, ⟨rfl, rfl⟩, hs⟩

theorem NNewI_room (dcs room : Int) (h1 : 1 ≤ dcs) (h2 : dcs ≤ 4) (h : room < 1 ∨ 16 < room) : Trip Try.prog 55 [.int .i64 dcs, .int .i64 room] [] (fun v l => v = .tuple #[.pointer none, .int .i64 1] ∧ l = []) := by
  refine Trip.of Try.func55 (by kernel_rfl) fun E w L hs => ?_
  simp only [List.cons_append, List.nil_append] at hs
  refine To.run 11 ?_
  refine To.isFalse 13 (t := decide (dcs < 1)) (by kernel_rfl) (by (simp; omega)) ?_
  refine To.run 4 ?_
  refine To.isFalse 16 (t := decide (dcs > 4)) (by kernel_rfl) (by (simp; omega)) ?_
  refine To.run 6 ?_
  refine To.one (One.box (t := 128) (v := Value.agg #[Value.int IntKind.i64 dcs, Value.pointer none, Value.pointer none, Value.pointer none, Value.pointer none, Value.pointer none, Value.pointer none, Value.pointer none, Value.pointer none, Value.pointer none, Value.pointer none, Value.pointer none, Value.pointer none, Value.pointer none, Value.pointer none, Value.pointer none, Value.pointer none, Value.pointer none, Value.pointer none, Value.pointer none, Value.pointer none, Value.pointer none, Value.pointer none, Value.pointer none, Value.pointer none, Value.pointer none]) [Value.int IntKind.i64 dcs, Value.pointer none, Value.pointer none, Value.pointer none, Value.pointer none, Value.pointer none, Value.pointer none, Value.pointer none, Value.pointer none, Value.pointer none, Value.pointer none, Value.pointer none, Value.pointer none, Value.pointer none, Value.pointer none, Value.pointer none, Value.pointer none, Value.pointer none, Value.pointer none, Value.pointer none, Value.pointer none, Value.pointer none, Value.pointer none, Value.pointer none, Value.pointer none, Value.pointer none] hs (by kernel_rfl) (by kernel_rfl) fun b1 w1 hs1 => ?_)
  clear hs
  refine To.run 8 ?_
  refine To.run 1 ?_
  refine To.run 19 ?_
  refine To.run 1 ?_
  refine To.run 17 ?_
  refine To.one (One.call 1 [] [0] (g := 13) (args := [Value.int IntKind.i64 room]) (by kernel_rfl) hs1 (NewI_bad (room) (by assumption)) (by decide) rfl ?_)
  rintro _ _ w2 ⟨rfl, rfl⟩ hs2
  simp only [pickAll, List.filterMap_cons, List.filterMap_nil, List.getElem?_cons_zero, List.getElem?_cons_succ, List.cons_append, List.nil_append, List.drop_succ_cons, List.drop_zero] at hs2
  clear hs1
  refine To.run 19 ?_
  refine To.retv Try.func55 (by kernel_rfl) (v := Value.tuple #[Value.pointer none, Value.int IntKind.i64 1]) (by kernel_rfl) ?_
  exact ⟨_, _, rfl, ⟨rfl, rfl⟩, by first | exact hs1.sub (List.sublist_append_right [_] L) | exact hs2.sub (List.sublist_append_right [_] L)⟩

theorem newIDone {E w : World} {L : List Res} {nb R : Nat} {dcs : Int} {B C : Nat → Nat} {cells : List Value} (h : Sat E w (cel nb 128 cells :: lanes 25 103 R B C (fun _ => []) :: L)) (hc : cells = netCells dcs B) :
    Fins E L (fun v l => ∃ nb B C, v = .tuple #[.pointer (some ⟨nb, 0, none⟩), .int .i64 0] ∧ l = [cel nb 128 (netCells dcs B), lanes 25 103 R B C (fun _ => [])]) (.returned (.tuple #[.pointer (some ⟨nb, 0, none⟩), .int .i64 0])) w := by
  subst hc
  exact ⟨_, _, rfl, ⟨_, _, _, rfl, rfl⟩, h⟩

theorem NNewI_ok (dcs room : Int) (h1 : 1 ≤ dcs) (h2 : dcs ≤ 4) (h3 : 1 ≤ room) (h4 : room ≤ 16) : Trip Try.prog 55 [.int .i64 dcs, .int .i64 room] []
    (fun v l => ∃ nb B C, v = .tuple #[.pointer (some ⟨nb, 0, none⟩), .int .i64 0] ∧ l = [cel nb 128 (netCells dcs B), lanes 25 103 room.toNat B C (fun _ => [])]) := by
  refine Trip.of Try.func55 (by kernel_rfl) fun E w L hs0 => ?_
  simp only [List.nil_append] at hs0
  refine To.run 11 ?_
  refine To.isFalse 13 (t := decide (dcs < 1)) (by kernel_rfl) (by (simp; omega)) ?_
  refine To.run 4 ?_
  refine To.isFalse 16 (t := decide (dcs > 4)) (by kernel_rfl) (by (simp; omega)) ?_
  refine To.run 6 ?_
  refine To.one (One.box (t := 128) (v := Value.agg #[Value.int IntKind.i64 dcs, Value.pointer none, Value.pointer none, Value.pointer none, Value.pointer none, Value.pointer none, Value.pointer none, Value.pointer none, Value.pointer none, Value.pointer none, Value.pointer none, Value.pointer none, Value.pointer none, Value.pointer none, Value.pointer none, Value.pointer none, Value.pointer none, Value.pointer none, Value.pointer none, Value.pointer none, Value.pointer none, Value.pointer none, Value.pointer none, Value.pointer none, Value.pointer none, Value.pointer none]) [Value.int IntKind.i64 dcs, Value.pointer none, Value.pointer none, Value.pointer none, Value.pointer none, Value.pointer none, Value.pointer none, Value.pointer none, Value.pointer none, Value.pointer none, Value.pointer none, Value.pointer none, Value.pointer none, Value.pointer none, Value.pointer none, Value.pointer none, Value.pointer none, Value.pointer none, Value.pointer none, Value.pointer none, Value.pointer none, Value.pointer none, Value.pointer none, Value.pointer none, Value.pointer none, Value.pointer none] hs0 (by kernel_rfl) (by kernel_rfl) fun b1 w1 hs1 => ?_)
  clear hs0
  refine To.run 8 ?_
  have hs := Sat.laneNone (e := 103) (R := room.toNat) (B := fun _ => 0) (C := fun _ => 0) (X := fun _ => []) hs1
  clear hs1
  refine To.run 1 ?_
  refine To.at (fn := Try.f55) (n := 7) (l := [(1, Value.int IntKind.i64 room), (6, Value.pointer (some { block := b1, off := 0 })), (20, Value.int IntKind.i64 0)]) (by kernel_rfl) fun j => ?_
  refine To.run 19 ?_
  refine To.run 1 ?_
  refine To.at (fn := Try.f55) (n := 13) (l := [(1, Value.int IntKind.i64 room), (6, Value.pointer (some { block := b1, off := 0 })), (7, Value.int IntKind.i64 0), (20, Value.int IntKind.i64 0), (23, Value.int IntKind.i64 0)]) (by kernel_rfl) fun j => ?_
  refine To.run 17 ?_
  refine To.one (One.call 2 [] [0, 1] (g := 13) (args := [Value.int IntKind.i64 room]) (by kernel_rfl) hs (NewI_ok (room) (by assumption) (by assumption)) (by decide) rfl ?_)
  rintro _ _ w2 ⟨b, c, rfl, rfl⟩ hs1
  simp only [pickAll, List.filterMap_cons, List.filterMap_nil, List.getElem?_cons_zero, List.getElem?_cons_succ, List.cons_append, List.nil_append, List.drop_succ_cons, List.drop_zero] at hs1
  clear hs
  refine To.run 23 ?_
  refine To.one (One.store 2 (t := 25) (off := 1) (v := Value.pointer (some { block := b, off := 0 })) (vs' := [Value.int IntKind.i64 dcs, Value.pointer (some { block := b, off := 0 }), Value.pointer none, Value.pointer none, Value.pointer none, Value.pointer none, Value.pointer none, Value.pointer none, Value.pointer none, Value.pointer none, Value.pointer none, Value.pointer none, Value.pointer none, Value.pointer none, Value.pointer none, Value.pointer none, Value.pointer none, Value.pointer none, Value.pointer none, Value.pointer none, Value.pointer none, Value.pointer none, Value.pointer none, Value.pointer none, Value.pointer none, Value.pointer none]) hs1 rfl (by kernel_rfl) (by kernel_rfl) (by kernel_rfl) fun w3 hs2 => ?_)
  simp only [List.set_cons_zero, List.set_cons_succ] at hs2
  clear hs1
  refine To.run 6 ?_
  have hs := hs2.turn3.laneGrow
  clear hs2
  refine To.run 1 ?_
  refine To.at (fn := Try.f55) (n := 13) (l := [(1, Value.int IntKind.i64 room), (6, Value.pointer (some { block := b1, off := 0 })), (7, Value.int IntKind.i64 0), (20, Value.int IntKind.i64 0), (23, Value.int IntKind.i64 1)]) (by kernel_rfl) fun j => ?_
  refine To.run 17 ?_
  refine To.one (One.call 2 [] [0, 1] (g := 13) (args := [Value.int IntKind.i64 room]) (by kernel_rfl) hs (NewI_ok (room) (by assumption) (by assumption)) (by decide) rfl ?_)
  rintro _ _ w4 ⟨b2, c1, rfl, rfl⟩ hs1
  simp only [pickAll, List.filterMap_cons, List.filterMap_nil, List.getElem?_cons_zero, List.getElem?_cons_succ, List.cons_append, List.nil_append, List.drop_succ_cons, List.drop_zero] at hs1
  clear hs
  refine To.run 23 ?_
  refine To.one (One.store 2 (t := 25) (off := 2) (v := Value.pointer (some { block := b2, off := 0 })) (vs' := [Value.int IntKind.i64 dcs, Value.pointer (some { block := b, off := 0 }), Value.pointer (some { block := b2, off := 0 }), Value.pointer none, Value.pointer none, Value.pointer none, Value.pointer none, Value.pointer none, Value.pointer none, Value.pointer none, Value.pointer none, Value.pointer none, Value.pointer none, Value.pointer none, Value.pointer none, Value.pointer none, Value.pointer none, Value.pointer none, Value.pointer none, Value.pointer none, Value.pointer none, Value.pointer none, Value.pointer none, Value.pointer none, Value.pointer none, Value.pointer none]) hs1 rfl (by kernel_rfl) (by kernel_rfl) (by kernel_rfl) fun w5 hs2 => ?_)
  simp only [List.set_cons_zero, List.set_cons_succ] at hs2
  clear hs1
  refine To.run 6 ?_
  have hs := hs2.turn3.laneGrow
  clear hs2
  refine To.run 1 ?_
  refine To.at (fn := Try.f55) (n := 13) (l := [(1, Value.int IntKind.i64 room), (6, Value.pointer (some { block := b1, off := 0 })), (7, Value.int IntKind.i64 0), (20, Value.int IntKind.i64 0), (23, Value.int IntKind.i64 2)]) (by kernel_rfl) fun j => ?_
  refine To.run 17 ?_
  refine To.one (One.call 2 [] [0, 1] (g := 13) (args := [Value.int IntKind.i64 room]) (by kernel_rfl) hs (NewI_ok (room) (by assumption) (by assumption)) (by decide) rfl ?_)
  rintro _ _ w6 ⟨b3, c2, rfl, rfl⟩ hs1
  simp only [pickAll, List.filterMap_cons, List.filterMap_nil, List.getElem?_cons_zero, List.getElem?_cons_succ, List.cons_append, List.nil_append, List.drop_succ_cons, List.drop_zero] at hs1
  clear hs
  refine To.run 23 ?_
  refine To.one (One.store 2 (t := 25) (off := 3) (v := Value.pointer (some { block := b3, off := 0 })) (vs' := [Value.int IntKind.i64 dcs, Value.pointer (some { block := b, off := 0 }), Value.pointer (some { block := b2, off := 0 }), Value.pointer (some { block := b3, off := 0 }), Value.pointer none, Value.pointer none, Value.pointer none, Value.pointer none, Value.pointer none, Value.pointer none, Value.pointer none, Value.pointer none, Value.pointer none, Value.pointer none, Value.pointer none, Value.pointer none, Value.pointer none, Value.pointer none, Value.pointer none, Value.pointer none, Value.pointer none, Value.pointer none, Value.pointer none, Value.pointer none, Value.pointer none, Value.pointer none]) hs1 rfl (by kernel_rfl) (by kernel_rfl) (by kernel_rfl) fun w7 hs2 => ?_)
  simp only [List.set_cons_zero, List.set_cons_succ] at hs2
  clear hs1
  refine To.run 6 ?_
  have hs := hs2.turn3.laneGrow
  clear hs2
  refine To.run 1 ?_
  refine To.at (fn := Try.f55) (n := 13) (l := [(1, Value.int IntKind.i64 room), (6, Value.pointer (some { block := b1, off := 0 })), (7, Value.int IntKind.i64 0), (20, Value.int IntKind.i64 0), (23, Value.int IntKind.i64 3)]) (by kernel_rfl) fun j => ?_
  refine To.run 17 ?_
  refine To.one (One.call 2 [] [0, 1] (g := 13) (args := [Value.int IntKind.i64 room]) (by kernel_rfl) hs (NewI_ok (room) (by assumption) (by assumption)) (by decide) rfl ?_)
  rintro _ _ w8 ⟨b4, c3, rfl, rfl⟩ hs1
  simp only [pickAll, List.filterMap_cons, List.filterMap_nil, List.getElem?_cons_zero, List.getElem?_cons_succ, List.cons_append, List.nil_append, List.drop_succ_cons, List.drop_zero] at hs1
  clear hs
  refine To.run 23 ?_
  refine To.one (One.store 2 (t := 25) (off := 4) (v := Value.pointer (some { block := b4, off := 0 })) (vs' := [Value.int IntKind.i64 dcs, Value.pointer (some { block := b, off := 0 }), Value.pointer (some { block := b2, off := 0 }), Value.pointer (some { block := b3, off := 0 }), Value.pointer (some { block := b4, off := 0 }), Value.pointer none, Value.pointer none, Value.pointer none, Value.pointer none, Value.pointer none, Value.pointer none, Value.pointer none, Value.pointer none, Value.pointer none, Value.pointer none, Value.pointer none, Value.pointer none, Value.pointer none, Value.pointer none, Value.pointer none, Value.pointer none, Value.pointer none, Value.pointer none, Value.pointer none, Value.pointer none, Value.pointer none]) hs1 rfl (by kernel_rfl) (by kernel_rfl) (by kernel_rfl) fun w9 hs2 => ?_)
  simp only [List.set_cons_zero, List.set_cons_succ] at hs2
  clear hs1
  refine To.run 6 ?_
  have hs := hs2.turn3.laneGrow
  clear hs2
  refine To.run 1 ?_
  refine To.at (fn := Try.f55) (n := 13) (l := [(1, Value.int IntKind.i64 room), (6, Value.pointer (some { block := b1, off := 0 })), (7, Value.int IntKind.i64 0), (20, Value.int IntKind.i64 0), (23, Value.int IntKind.i64 4)]) (by kernel_rfl) fun j => ?_
  refine To.run 17 ?_
  refine To.one (One.call 2 [] [0, 1] (g := 13) (args := [Value.int IntKind.i64 room]) (by kernel_rfl) hs (NewI_ok (room) (by assumption) (by assumption)) (by decide) rfl ?_)
  rintro _ _ w10 ⟨b5, c4, rfl, rfl⟩ hs1
  simp only [pickAll, List.filterMap_cons, List.filterMap_nil, List.getElem?_cons_zero, List.getElem?_cons_succ, List.cons_append, List.nil_append, List.drop_succ_cons, List.drop_zero] at hs1
  clear hs
  refine To.run 23 ?_
  refine To.one (One.store 2 (t := 25) (off := 5) (v := Value.pointer (some { block := b5, off := 0 })) (vs' := [Value.int IntKind.i64 dcs, Value.pointer (some { block := b, off := 0 }), Value.pointer (some { block := b2, off := 0 }), Value.pointer (some { block := b3, off := 0 }), Value.pointer (some { block := b4, off := 0 }), Value.pointer (some { block := b5, off := 0 }), Value.pointer none, Value.pointer none, Value.pointer none, Value.pointer none, Value.pointer none, Value.pointer none, Value.pointer none, Value.pointer none, Value.pointer none, Value.pointer none, Value.pointer none, Value.pointer none, Value.pointer none, Value.pointer none, Value.pointer none, Value.pointer none, Value.pointer none, Value.pointer none, Value.pointer none, Value.pointer none]) hs1 rfl (by kernel_rfl) (by kernel_rfl) (by kernel_rfl) fun w11 hs2 => ?_)
  simp only [List.set_cons_zero, List.set_cons_succ] at hs2
  clear hs1
  refine To.run 6 ?_
  have hs := hs2.turn3.laneGrow
  clear hs2
  refine To.run 1 ?_
  refine To.at (fn := Try.f55) (n := 13) (l := [(1, Value.int IntKind.i64 room), (6, Value.pointer (some { block := b1, off := 0 })), (7, Value.int IntKind.i64 0), (20, Value.int IntKind.i64 0), (23, Value.int IntKind.i64 5)]) (by kernel_rfl) fun j => ?_
  refine To.run 12 ?_
  refine To.run 1 ?_
  refine To.at (fn := Try.f55) (n := 7) (l := [(1, Value.int IntKind.i64 room), (6, Value.pointer (some { block := b1, off := 0 })), (20, Value.int IntKind.i64 1)]) (by kernel_rfl) fun j => ?_
  refine To.run 19 ?_
  refine To.run 1 ?_
  refine To.at (fn := Try.f55) (n := 13) (l := [(1, Value.int IntKind.i64 room), (6, Value.pointer (some { block := b1, off := 0 })), (7, Value.int IntKind.i64 1), (20, Value.int IntKind.i64 1), (23, Value.int IntKind.i64 0)]) (by kernel_rfl) fun j => ?_
  refine To.run 17 ?_
  refine To.one (One.call 2 [] [0, 1] (g := 13) (args := [Value.int IntKind.i64 room]) (by kernel_rfl) hs (NewI_ok (room) (by assumption) (by assumption)) (by decide) rfl ?_)
  rintro _ _ w12 ⟨b6, c5, rfl, rfl⟩ hs1
  simp only [pickAll, List.filterMap_cons, List.filterMap_nil, List.getElem?_cons_zero, List.getElem?_cons_succ, List.cons_append, List.nil_append, List.drop_succ_cons, List.drop_zero] at hs1
  clear hs
  refine To.run 23 ?_
  refine To.one (One.store 2 (t := 25) (off := 6) (v := Value.pointer (some { block := b6, off := 0 })) (vs' := [Value.int IntKind.i64 dcs, Value.pointer (some { block := b, off := 0 }), Value.pointer (some { block := b2, off := 0 }), Value.pointer (some { block := b3, off := 0 }), Value.pointer (some { block := b4, off := 0 }), Value.pointer (some { block := b5, off := 0 }), Value.pointer (some { block := b6, off := 0 }), Value.pointer none, Value.pointer none, Value.pointer none, Value.pointer none, Value.pointer none, Value.pointer none, Value.pointer none, Value.pointer none, Value.pointer none, Value.pointer none, Value.pointer none, Value.pointer none, Value.pointer none, Value.pointer none, Value.pointer none, Value.pointer none, Value.pointer none, Value.pointer none, Value.pointer none]) hs1 rfl (by kernel_rfl) (by kernel_rfl) (by kernel_rfl) fun w13 hs2 => ?_)
  simp only [List.set_cons_zero, List.set_cons_succ] at hs2
  clear hs1
  refine To.run 6 ?_
  have hs := hs2.turn3.laneGrow
  clear hs2
  refine To.run 1 ?_
  refine To.at (fn := Try.f55) (n := 13) (l := [(1, Value.int IntKind.i64 room), (6, Value.pointer (some { block := b1, off := 0 })), (7, Value.int IntKind.i64 1), (20, Value.int IntKind.i64 1), (23, Value.int IntKind.i64 1)]) (by kernel_rfl) fun j => ?_
  refine To.run 17 ?_
  refine To.one (One.call 2 [] [0, 1] (g := 13) (args := [Value.int IntKind.i64 room]) (by kernel_rfl) hs (NewI_ok (room) (by assumption) (by assumption)) (by decide) rfl ?_)
  rintro _ _ w14 ⟨b7, c6, rfl, rfl⟩ hs1
  simp only [pickAll, List.filterMap_cons, List.filterMap_nil, List.getElem?_cons_zero, List.getElem?_cons_succ, List.cons_append, List.nil_append, List.drop_succ_cons, List.drop_zero] at hs1
  clear hs
  refine To.run 23 ?_
  refine To.one (One.store 2 (t := 25) (off := 7) (v := Value.pointer (some { block := b7, off := 0 })) (vs' := [Value.int IntKind.i64 dcs, Value.pointer (some { block := b, off := 0 }), Value.pointer (some { block := b2, off := 0 }), Value.pointer (some { block := b3, off := 0 }), Value.pointer (some { block := b4, off := 0 }), Value.pointer (some { block := b5, off := 0 }), Value.pointer (some { block := b6, off := 0 }), Value.pointer (some { block := b7, off := 0 }), Value.pointer none, Value.pointer none, Value.pointer none, Value.pointer none, Value.pointer none, Value.pointer none, Value.pointer none, Value.pointer none, Value.pointer none, Value.pointer none, Value.pointer none, Value.pointer none, Value.pointer none, Value.pointer none, Value.pointer none, Value.pointer none, Value.pointer none, Value.pointer none]) hs1 rfl (by kernel_rfl) (by kernel_rfl) (by kernel_rfl) fun w15 hs2 => ?_)
  simp only [List.set_cons_zero, List.set_cons_succ] at hs2
  clear hs1
  refine To.run 6 ?_
  have hs := hs2.turn3.laneGrow
  clear hs2
  refine To.run 1 ?_
  refine To.at (fn := Try.f55) (n := 13) (l := [(1, Value.int IntKind.i64 room), (6, Value.pointer (some { block := b1, off := 0 })), (7, Value.int IntKind.i64 1), (20, Value.int IntKind.i64 1), (23, Value.int IntKind.i64 2)]) (by kernel_rfl) fun j => ?_
  refine To.run 17 ?_
  refine To.one (One.call 2 [] [0, 1] (g := 13) (args := [Value.int IntKind.i64 room]) (by kernel_rfl) hs (NewI_ok (room) (by assumption) (by assumption)) (by decide) rfl ?_)
  rintro _ _ w16 ⟨b8, c7, rfl, rfl⟩ hs1
  simp only [pickAll, List.filterMap_cons, List.filterMap_nil, List.getElem?_cons_zero, List.getElem?_cons_succ, List.cons_append, List.nil_append, List.drop_succ_cons, List.drop_zero] at hs1
  clear hs
  refine To.run 23 ?_
  refine To.one (One.store 2 (t := 25) (off := 8) (v := Value.pointer (some { block := b8, off := 0 })) (vs' := [Value.int IntKind.i64 dcs, Value.pointer (some { block := b, off := 0 }), Value.pointer (some { block := b2, off := 0 }), Value.pointer (some { block := b3, off := 0 }), Value.pointer (some { block := b4, off := 0 }), Value.pointer (some { block := b5, off := 0 }), Value.pointer (some { block := b6, off := 0 }), Value.pointer (some { block := b7, off := 0 }), Value.pointer (some { block := b8, off := 0 }), Value.pointer none, Value.pointer none, Value.pointer none, Value.pointer none, Value.pointer none, Value.pointer none, Value.pointer none, Value.pointer none, Value.pointer none, Value.pointer none, Value.pointer none, Value.pointer none, Value.pointer none, Value.pointer none, Value.pointer none, Value.pointer none, Value.pointer none]) hs1 rfl (by kernel_rfl) (by kernel_rfl) (by kernel_rfl) fun w17 hs2 => ?_)
  simp only [List.set_cons_zero, List.set_cons_succ] at hs2
  clear hs1
  refine To.run 6 ?_
  have hs := hs2.turn3.laneGrow
  clear hs2
  refine To.run 1 ?_
  refine To.at (fn := Try.f55) (n := 13) (l := [(1, Value.int IntKind.i64 room), (6, Value.pointer (some { block := b1, off := 0 })), (7, Value.int IntKind.i64 1), (20, Value.int IntKind.i64 1), (23, Value.int IntKind.i64 3)]) (by kernel_rfl) fun j => ?_
  refine To.run 17 ?_
  refine To.one (One.call 2 [] [0, 1] (g := 13) (args := [Value.int IntKind.i64 room]) (by kernel_rfl) hs (NewI_ok (room) (by assumption) (by assumption)) (by decide) rfl ?_)
  rintro _ _ w18 ⟨b9, c8, rfl, rfl⟩ hs1
  simp only [pickAll, List.filterMap_cons, List.filterMap_nil, List.getElem?_cons_zero, List.getElem?_cons_succ, List.cons_append, List.nil_append, List.drop_succ_cons, List.drop_zero] at hs1
  clear hs
  refine To.run 23 ?_
  refine To.one (One.store 2 (t := 25) (off := 9) (v := Value.pointer (some { block := b9, off := 0 })) (vs' := [Value.int IntKind.i64 dcs, Value.pointer (some { block := b, off := 0 }), Value.pointer (some { block := b2, off := 0 }), Value.pointer (some { block := b3, off := 0 }), Value.pointer (some { block := b4, off := 0 }), Value.pointer (some { block := b5, off := 0 }), Value.pointer (some { block := b6, off := 0 }), Value.pointer (some { block := b7, off := 0 }), Value.pointer (some { block := b8, off := 0 }), Value.pointer (some { block := b9, off := 0 }), Value.pointer none, Value.pointer none, Value.pointer none, Value.pointer none, Value.pointer none, Value.pointer none, Value.pointer none, Value.pointer none, Value.pointer none, Value.pointer none, Value.pointer none, Value.pointer none, Value.pointer none, Value.pointer none, Value.pointer none, Value.pointer none]) hs1 rfl (by kernel_rfl) (by kernel_rfl) (by kernel_rfl) fun w19 hs2 => ?_)
  simp only [List.set_cons_zero, List.set_cons_succ] at hs2
  clear hs1
  refine To.run 6 ?_
  have hs := hs2.turn3.laneGrow
  clear hs2
  refine To.run 1 ?_
  refine To.at (fn := Try.f55) (n := 13) (l := [(1, Value.int IntKind.i64 room), (6, Value.pointer (some { block := b1, off := 0 })), (7, Value.int IntKind.i64 1), (20, Value.int IntKind.i64 1), (23, Value.int IntKind.i64 4)]) (by kernel_rfl) fun j => ?_
  refine To.run 17 ?_
  refine To.one (One.call 2 [] [0, 1] (g := 13) (args := [Value.int IntKind.i64 room]) (by kernel_rfl) hs (NewI_ok (room) (by assumption) (by assumption)) (by decide) rfl ?_)
  rintro _ _ w20 ⟨b10, c9, rfl, rfl⟩ hs1
  simp only [pickAll, List.filterMap_cons, List.filterMap_nil, List.getElem?_cons_zero, List.getElem?_cons_succ, List.cons_append, List.nil_append, List.drop_succ_cons, List.drop_zero] at hs1
  clear hs
  refine To.run 23 ?_
  refine To.one (One.store 2 (t := 25) (off := 10) (v := Value.pointer (some { block := b10, off := 0 })) (vs' := [Value.int IntKind.i64 dcs, Value.pointer (some { block := b, off := 0 }), Value.pointer (some { block := b2, off := 0 }), Value.pointer (some { block := b3, off := 0 }), Value.pointer (some { block := b4, off := 0 }), Value.pointer (some { block := b5, off := 0 }), Value.pointer (some { block := b6, off := 0 }), Value.pointer (some { block := b7, off := 0 }), Value.pointer (some { block := b8, off := 0 }), Value.pointer (some { block := b9, off := 0 }), Value.pointer (some { block := b10, off := 0 }), Value.pointer none, Value.pointer none, Value.pointer none, Value.pointer none, Value.pointer none, Value.pointer none, Value.pointer none, Value.pointer none, Value.pointer none, Value.pointer none, Value.pointer none, Value.pointer none, Value.pointer none, Value.pointer none, Value.pointer none]) hs1 rfl (by kernel_rfl) (by kernel_rfl) (by kernel_rfl) fun w21 hs2 => ?_)
  simp only [List.set_cons_zero, List.set_cons_succ] at hs2
  clear hs1
  refine To.run 6 ?_
  have hs := hs2.turn3.laneGrow
  clear hs2
  refine To.run 1 ?_
  refine To.at (fn := Try.f55) (n := 13) (l := [(1, Value.int IntKind.i64 room), (6, Value.pointer (some { block := b1, off := 0 })), (7, Value.int IntKind.i64 1), (20, Value.int IntKind.i64 1), (23, Value.int IntKind.i64 5)]) (by kernel_rfl) fun j => ?_
  refine To.run 12 ?_
  refine To.run 1 ?_
  refine To.at (fn := Try.f55) (n := 7) (l := [(1, Value.int IntKind.i64 room), (6, Value.pointer (some { block := b1, off := 0 })), (20, Value.int IntKind.i64 2)]) (by kernel_rfl) fun j => ?_
  refine To.run 19 ?_
  refine To.run 1 ?_
  refine To.at (fn := Try.f55) (n := 13) (l := [(1, Value.int IntKind.i64 room), (6, Value.pointer (some { block := b1, off := 0 })), (7, Value.int IntKind.i64 2), (20, Value.int IntKind.i64 2), (23, Value.int IntKind.i64 0)]) (by kernel_rfl) fun j => ?_
  refine To.run 17 ?_
  refine To.one (One.call 2 [] [0, 1] (g := 13) (args := [Value.int IntKind.i64 room]) (by kernel_rfl) hs (NewI_ok (room) (by assumption) (by assumption)) (by decide) rfl ?_)
  rintro _ _ w22 ⟨b11, c10, rfl, rfl⟩ hs1
  simp only [pickAll, List.filterMap_cons, List.filterMap_nil, List.getElem?_cons_zero, List.getElem?_cons_succ, List.cons_append, List.nil_append, List.drop_succ_cons, List.drop_zero] at hs1
  clear hs
  refine To.run 23 ?_
  refine To.one (One.store 2 (t := 25) (off := 11) (v := Value.pointer (some { block := b11, off := 0 })) (vs' := [Value.int IntKind.i64 dcs, Value.pointer (some { block := b, off := 0 }), Value.pointer (some { block := b2, off := 0 }), Value.pointer (some { block := b3, off := 0 }), Value.pointer (some { block := b4, off := 0 }), Value.pointer (some { block := b5, off := 0 }), Value.pointer (some { block := b6, off := 0 }), Value.pointer (some { block := b7, off := 0 }), Value.pointer (some { block := b8, off := 0 }), Value.pointer (some { block := b9, off := 0 }), Value.pointer (some { block := b10, off := 0 }), Value.pointer (some { block := b11, off := 0 }), Value.pointer none, Value.pointer none, Value.pointer none, Value.pointer none, Value.pointer none, Value.pointer none, Value.pointer none, Value.pointer none, Value.pointer none, Value.pointer none, Value.pointer none, Value.pointer none, Value.pointer none, Value.pointer none]) hs1 rfl (by kernel_rfl) (by kernel_rfl) (by kernel_rfl) fun w23 hs2 => ?_)
  simp only [List.set_cons_zero, List.set_cons_succ] at hs2
  clear hs1
  refine To.run 6 ?_
  have hs := hs2.turn3.laneGrow
  clear hs2
  refine To.run 1 ?_
  refine To.at (fn := Try.f55) (n := 13) (l := [(1, Value.int IntKind.i64 room), (6, Value.pointer (some { block := b1, off := 0 })), (7, Value.int IntKind.i64 2), (20, Value.int IntKind.i64 2), (23, Value.int IntKind.i64 1)]) (by kernel_rfl) fun j => ?_
  refine To.run 17 ?_
  refine To.one (One.call 2 [] [0, 1] (g := 13) (args := [Value.int IntKind.i64 room]) (by kernel_rfl) hs (NewI_ok (room) (by assumption) (by assumption)) (by decide) rfl ?_)
  rintro _ _ w24 ⟨b12, c11, rfl, rfl⟩ hs1
  simp only [pickAll, List.filterMap_cons, List.filterMap_nil, List.getElem?_cons_zero, List.getElem?_cons_succ, List.cons_append, List.nil_append, List.drop_succ_cons, List.drop_zero] at hs1
  clear hs
  refine To.run 23 ?_
  refine To.one (One.store 2 (t := 25) (off := 12) (v := Value.pointer (some { block := b12, off := 0 })) (vs' := [Value.int IntKind.i64 dcs, Value.pointer (some { block := b, off := 0 }), Value.pointer (some { block := b2, off := 0 }), Value.pointer (some { block := b3, off := 0 }), Value.pointer (some { block := b4, off := 0 }), Value.pointer (some { block := b5, off := 0 }), Value.pointer (some { block := b6, off := 0 }), Value.pointer (some { block := b7, off := 0 }), Value.pointer (some { block := b8, off := 0 }), Value.pointer (some { block := b9, off := 0 }), Value.pointer (some { block := b10, off := 0 }), Value.pointer (some { block := b11, off := 0 }), Value.pointer (some { block := b12, off := 0 }), Value.pointer none, Value.pointer none, Value.pointer none, Value.pointer none, Value.pointer none, Value.pointer none, Value.pointer none, Value.pointer none, Value.pointer none, Value.pointer none, Value.pointer none, Value.pointer none, Value.pointer none]) hs1 rfl (by kernel_rfl) (by kernel_rfl) (by kernel_rfl) fun w25 hs2 => ?_)
  simp only [List.set_cons_zero, List.set_cons_succ] at hs2
  clear hs1
  refine To.run 6 ?_
  have hs := hs2.turn3.laneGrow
  clear hs2
  refine To.run 1 ?_
  refine To.at (fn := Try.f55) (n := 13) (l := [(1, Value.int IntKind.i64 room), (6, Value.pointer (some { block := b1, off := 0 })), (7, Value.int IntKind.i64 2), (20, Value.int IntKind.i64 2), (23, Value.int IntKind.i64 2)]) (by kernel_rfl) fun j => ?_
  refine To.run 17 ?_
  refine To.one (One.call 2 [] [0, 1] (g := 13) (args := [Value.int IntKind.i64 room]) (by kernel_rfl) hs (NewI_ok (room) (by assumption) (by assumption)) (by decide) rfl ?_)
  rintro _ _ w26 ⟨b13, c12, rfl, rfl⟩ hs1
  simp only [pickAll, List.filterMap_cons, List.filterMap_nil, List.getElem?_cons_zero, List.getElem?_cons_succ, List.cons_append, List.nil_append, List.drop_succ_cons, List.drop_zero] at hs1
  clear hs
  refine To.run 23 ?_
  refine To.one (One.store 2 (t := 25) (off := 13) (v := Value.pointer (some { block := b13, off := 0 })) (vs' := [Value.int IntKind.i64 dcs, Value.pointer (some { block := b, off := 0 }), Value.pointer (some { block := b2, off := 0 }), Value.pointer (some { block := b3, off := 0 }), Value.pointer (some { block := b4, off := 0 }), Value.pointer (some { block := b5, off := 0 }), Value.pointer (some { block := b6, off := 0 }), Value.pointer (some { block := b7, off := 0 }), Value.pointer (some { block := b8, off := 0 }), Value.pointer (some { block := b9, off := 0 }), Value.pointer (some { block := b10, off := 0 }), Value.pointer (some { block := b11, off := 0 }), Value.pointer (some { block := b12, off := 0 }), Value.pointer (some { block := b13, off := 0 }), Value.pointer none, Value.pointer none, Value.pointer none, Value.pointer none, Value.pointer none, Value.pointer none, Value.pointer none, Value.pointer none, Value.pointer none, Value.pointer none, Value.pointer none, Value.pointer none]) hs1 rfl (by kernel_rfl) (by kernel_rfl) (by kernel_rfl) fun w27 hs2 => ?_)
  simp only [List.set_cons_zero, List.set_cons_succ] at hs2
  clear hs1
  refine To.run 6 ?_
  have hs := hs2.turn3.laneGrow
  clear hs2
  refine To.run 1 ?_
  refine To.at (fn := Try.f55) (n := 13) (l := [(1, Value.int IntKind.i64 room), (6, Value.pointer (some { block := b1, off := 0 })), (7, Value.int IntKind.i64 2), (20, Value.int IntKind.i64 2), (23, Value.int IntKind.i64 3)]) (by kernel_rfl) fun j => ?_
  refine To.run 17 ?_
  refine To.one (One.call 2 [] [0, 1] (g := 13) (args := [Value.int IntKind.i64 room]) (by kernel_rfl) hs (NewI_ok (room) (by assumption) (by assumption)) (by decide) rfl ?_)
  rintro _ _ w28 ⟨b14, c13, rfl, rfl⟩ hs1
  simp only [pickAll, List.filterMap_cons, List.filterMap_nil, List.getElem?_cons_zero, List.getElem?_cons_succ, List.cons_append, List.nil_append, List.drop_succ_cons, List.drop_zero] at hs1
  clear hs
  refine To.run 23 ?_
  refine To.one (One.store 2 (t := 25) (off := 14) (v := Value.pointer (some { block := b14, off := 0 })) (vs' := [Value.int IntKind.i64 dcs, Value.pointer (some { block := b, off := 0 }), Value.pointer (some { block := b2, off := 0 }), Value.pointer (some { block := b3, off := 0 }), Value.pointer (some { block := b4, off := 0 }), Value.pointer (some { block := b5, off := 0 }), Value.pointer (some { block := b6, off := 0 }), Value.pointer (some { block := b7, off := 0 }), Value.pointer (some { block := b8, off := 0 }), Value.pointer (some { block := b9, off := 0 }), Value.pointer (some { block := b10, off := 0 }), Value.pointer (some { block := b11, off := 0 }), Value.pointer (some { block := b12, off := 0 }), Value.pointer (some { block := b13, off := 0 }), Value.pointer (some { block := b14, off := 0 }), Value.pointer none, Value.pointer none, Value.pointer none, Value.pointer none, Value.pointer none, Value.pointer none, Value.pointer none, Value.pointer none, Value.pointer none, Value.pointer none, Value.pointer none]) hs1 rfl (by kernel_rfl) (by kernel_rfl) (by kernel_rfl) fun w29 hs2 => ?_)
  simp only [List.set_cons_zero, List.set_cons_succ] at hs2
  clear hs1
  refine To.run 6 ?_
  have hs := hs2.turn3.laneGrow
  clear hs2
  refine To.run 1 ?_
  refine To.at (fn := Try.f55) (n := 13) (l := [(1, Value.int IntKind.i64 room), (6, Value.pointer (some { block := b1, off := 0 })), (7, Value.int IntKind.i64 2), (20, Value.int IntKind.i64 2), (23, Value.int IntKind.i64 4)]) (by kernel_rfl) fun j => ?_
  refine To.run 17 ?_
  refine To.one (One.call 2 [] [0, 1] (g := 13) (args := [Value.int IntKind.i64 room]) (by kernel_rfl) hs (NewI_ok (room) (by assumption) (by assumption)) (by decide) rfl ?_)
  rintro _ _ w30 ⟨b15, c14, rfl, rfl⟩ hs1
  simp only [pickAll, List.filterMap_cons, List.filterMap_nil, List.getElem?_cons_zero, List.getElem?_cons_succ, List.cons_append, List.nil_append, List.drop_succ_cons, List.drop_zero] at hs1
  clear hs
  refine To.run 23 ?_
  refine To.one (One.store 2 (t := 25) (off := 15) (v := Value.pointer (some { block := b15, off := 0 })) (vs' := [Value.int IntKind.i64 dcs, Value.pointer (some { block := b, off := 0 }), Value.pointer (some { block := b2, off := 0 }), Value.pointer (some { block := b3, off := 0 }), Value.pointer (some { block := b4, off := 0 }), Value.pointer (some { block := b5, off := 0 }), Value.pointer (some { block := b6, off := 0 }), Value.pointer (some { block := b7, off := 0 }), Value.pointer (some { block := b8, off := 0 }), Value.pointer (some { block := b9, off := 0 }), Value.pointer (some { block := b10, off := 0 }), Value.pointer (some { block := b11, off := 0 }), Value.pointer (some { block := b12, off := 0 }), Value.pointer (some { block := b13, off := 0 }), Value.pointer (some { block := b14, off := 0 }), Value.pointer (some { block := b15, off := 0 }), Value.pointer none, Value.pointer none, Value.pointer none, Value.pointer none, Value.pointer none, Value.pointer none, Value.pointer none, Value.pointer none, Value.pointer none, Value.pointer none]) hs1 rfl (by kernel_rfl) (by kernel_rfl) (by kernel_rfl) fun w31 hs2 => ?_)
  simp only [List.set_cons_zero, List.set_cons_succ] at hs2
  clear hs1
  refine To.run 6 ?_
  have hs := hs2.turn3.laneGrow
  clear hs2
  refine To.run 1 ?_
  refine To.at (fn := Try.f55) (n := 13) (l := [(1, Value.int IntKind.i64 room), (6, Value.pointer (some { block := b1, off := 0 })), (7, Value.int IntKind.i64 2), (20, Value.int IntKind.i64 2), (23, Value.int IntKind.i64 5)]) (by kernel_rfl) fun j => ?_
  refine To.run 12 ?_
  refine To.run 1 ?_
  refine To.at (fn := Try.f55) (n := 7) (l := [(1, Value.int IntKind.i64 room), (6, Value.pointer (some { block := b1, off := 0 })), (20, Value.int IntKind.i64 3)]) (by kernel_rfl) fun j => ?_
  refine To.run 19 ?_
  refine To.run 1 ?_
  refine To.at (fn := Try.f55) (n := 13) (l := [(1, Value.int IntKind.i64 room), (6, Value.pointer (some { block := b1, off := 0 })), (7, Value.int IntKind.i64 3), (20, Value.int IntKind.i64 3), (23, Value.int IntKind.i64 0)]) (by kernel_rfl) fun j => ?_
  refine To.run 17 ?_
  refine To.one (One.call 2 [] [0, 1] (g := 13) (args := [Value.int IntKind.i64 room]) (by kernel_rfl) hs (NewI_ok (room) (by assumption) (by assumption)) (by decide) rfl ?_)
  rintro _ _ w32 ⟨b16, c15, rfl, rfl⟩ hs1
  simp only [pickAll, List.filterMap_cons, List.filterMap_nil, List.getElem?_cons_zero, List.getElem?_cons_succ, List.cons_append, List.nil_append, List.drop_succ_cons, List.drop_zero] at hs1
  clear hs
  refine To.run 23 ?_
  refine To.one (One.store 2 (t := 25) (off := 16) (v := Value.pointer (some { block := b16, off := 0 })) (vs' := [Value.int IntKind.i64 dcs, Value.pointer (some { block := b, off := 0 }), Value.pointer (some { block := b2, off := 0 }), Value.pointer (some { block := b3, off := 0 }), Value.pointer (some { block := b4, off := 0 }), Value.pointer (some { block := b5, off := 0 }), Value.pointer (some { block := b6, off := 0 }), Value.pointer (some { block := b7, off := 0 }), Value.pointer (some { block := b8, off := 0 }), Value.pointer (some { block := b9, off := 0 }), Value.pointer (some { block := b10, off := 0 }), Value.pointer (some { block := b11, off := 0 }), Value.pointer (some { block := b12, off := 0 }), Value.pointer (some { block := b13, off := 0 }), Value.pointer (some { block := b14, off := 0 }), Value.pointer (some { block := b15, off := 0 }), Value.pointer (some { block := b16, off := 0 }), Value.pointer none, Value.pointer none, Value.pointer none, Value.pointer none, Value.pointer none, Value.pointer none, Value.pointer none, Value.pointer none, Value.pointer none]) hs1 rfl (by kernel_rfl) (by kernel_rfl) (by kernel_rfl) fun w33 hs2 => ?_)
  simp only [List.set_cons_zero, List.set_cons_succ] at hs2
  clear hs1
  refine To.run 6 ?_
  have hs := hs2.turn3.laneGrow
  clear hs2
  refine To.run 1 ?_
  refine To.at (fn := Try.f55) (n := 13) (l := [(1, Value.int IntKind.i64 room), (6, Value.pointer (some { block := b1, off := 0 })), (7, Value.int IntKind.i64 3), (20, Value.int IntKind.i64 3), (23, Value.int IntKind.i64 1)]) (by kernel_rfl) fun j => ?_
  refine To.run 17 ?_
  refine To.one (One.call 2 [] [0, 1] (g := 13) (args := [Value.int IntKind.i64 room]) (by kernel_rfl) hs (NewI_ok (room) (by assumption) (by assumption)) (by decide) rfl ?_)
  rintro _ _ w34 ⟨b17, c16, rfl, rfl⟩ hs1
  simp only [pickAll, List.filterMap_cons, List.filterMap_nil, List.getElem?_cons_zero, List.getElem?_cons_succ, List.cons_append, List.nil_append, List.drop_succ_cons, List.drop_zero] at hs1
  clear hs
  refine To.run 23 ?_
  refine To.one (One.store 2 (t := 25) (off := 17) (v := Value.pointer (some { block := b17, off := 0 })) (vs' := [Value.int IntKind.i64 dcs, Value.pointer (some { block := b, off := 0 }), Value.pointer (some { block := b2, off := 0 }), Value.pointer (some { block := b3, off := 0 }), Value.pointer (some { block := b4, off := 0 }), Value.pointer (some { block := b5, off := 0 }), Value.pointer (some { block := b6, off := 0 }), Value.pointer (some { block := b7, off := 0 }), Value.pointer (some { block := b8, off := 0 }), Value.pointer (some { block := b9, off := 0 }), Value.pointer (some { block := b10, off := 0 }), Value.pointer (some { block := b11, off := 0 }), Value.pointer (some { block := b12, off := 0 }), Value.pointer (some { block := b13, off := 0 }), Value.pointer (some { block := b14, off := 0 }), Value.pointer (some { block := b15, off := 0 }), Value.pointer (some { block := b16, off := 0 }), Value.pointer (some { block := b17, off := 0 }), Value.pointer none, Value.pointer none, Value.pointer none, Value.pointer none, Value.pointer none, Value.pointer none, Value.pointer none, Value.pointer none]) hs1 rfl (by kernel_rfl) (by kernel_rfl) (by kernel_rfl) fun w35 hs2 => ?_)
  simp only [List.set_cons_zero, List.set_cons_succ] at hs2
  clear hs1
  refine To.run 6 ?_
  have hs := hs2.turn3.laneGrow
  clear hs2
  refine To.run 1 ?_
  refine To.at (fn := Try.f55) (n := 13) (l := [(1, Value.int IntKind.i64 room), (6, Value.pointer (some { block := b1, off := 0 })), (7, Value.int IntKind.i64 3), (20, Value.int IntKind.i64 3), (23, Value.int IntKind.i64 2)]) (by kernel_rfl) fun j => ?_
  refine To.run 17 ?_
  refine To.one (One.call 2 [] [0, 1] (g := 13) (args := [Value.int IntKind.i64 room]) (by kernel_rfl) hs (NewI_ok (room) (by assumption) (by assumption)) (by decide) rfl ?_)
  rintro _ _ w36 ⟨b18, c17, rfl, rfl⟩ hs1
  simp only [pickAll, List.filterMap_cons, List.filterMap_nil, List.getElem?_cons_zero, List.getElem?_cons_succ, List.cons_append, List.nil_append, List.drop_succ_cons, List.drop_zero] at hs1
  clear hs
  refine To.run 23 ?_
  refine To.one (One.store 2 (t := 25) (off := 18) (v := Value.pointer (some { block := b18, off := 0 })) (vs' := [Value.int IntKind.i64 dcs, Value.pointer (some { block := b, off := 0 }), Value.pointer (some { block := b2, off := 0 }), Value.pointer (some { block := b3, off := 0 }), Value.pointer (some { block := b4, off := 0 }), Value.pointer (some { block := b5, off := 0 }), Value.pointer (some { block := b6, off := 0 }), Value.pointer (some { block := b7, off := 0 }), Value.pointer (some { block := b8, off := 0 }), Value.pointer (some { block := b9, off := 0 }), Value.pointer (some { block := b10, off := 0 }), Value.pointer (some { block := b11, off := 0 }), Value.pointer (some { block := b12, off := 0 }), Value.pointer (some { block := b13, off := 0 }), Value.pointer (some { block := b14, off := 0 }), Value.pointer (some { block := b15, off := 0 }), Value.pointer (some { block := b16, off := 0 }), Value.pointer (some { block := b17, off := 0 }), Value.pointer (some { block := b18, off := 0 }), Value.pointer none, Value.pointer none, Value.pointer none, Value.pointer none, Value.pointer none, Value.pointer none, Value.pointer none]) hs1 rfl (by kernel_rfl) (by kernel_rfl) (by kernel_rfl) fun w37 hs2 => ?_)
  simp only [List.set_cons_zero, List.set_cons_succ] at hs2
  clear hs1
  refine To.run 6 ?_
  have hs := hs2.turn3.laneGrow
  clear hs2
  refine To.run 1 ?_
  refine To.at (fn := Try.f55) (n := 13) (l := [(1, Value.int IntKind.i64 room), (6, Value.pointer (some { block := b1, off := 0 })), (7, Value.int IntKind.i64 3), (20, Value.int IntKind.i64 3), (23, Value.int IntKind.i64 3)]) (by kernel_rfl) fun j => ?_
  refine To.run 17 ?_
  refine To.one (One.call 2 [] [0, 1] (g := 13) (args := [Value.int IntKind.i64 room]) (by kernel_rfl) hs (NewI_ok (room) (by assumption) (by assumption)) (by decide) rfl ?_)
  rintro _ _ w38 ⟨b19, c18, rfl, rfl⟩ hs1
  simp only [pickAll, List.filterMap_cons, List.filterMap_nil, List.getElem?_cons_zero, List.getElem?_cons_succ, List.cons_append, List.nil_append, List.drop_succ_cons, List.drop_zero] at hs1
  clear hs
  refine To.run 23 ?_
  refine To.one (One.store 2 (t := 25) (off := 19) (v := Value.pointer (some { block := b19, off := 0 })) (vs' := [Value.int IntKind.i64 dcs, Value.pointer (some { block := b, off := 0 }), Value.pointer (some { block := b2, off := 0 }), Value.pointer (some { block := b3, off := 0 }), Value.pointer (some { block := b4, off := 0 }), Value.pointer (some { block := b5, off := 0 }), Value.pointer (some { block := b6, off := 0 }), Value.pointer (some { block := b7, off := 0 }), Value.pointer (some { block := b8, off := 0 }), Value.pointer (some { block := b9, off := 0 }), Value.pointer (some { block := b10, off := 0 }), Value.pointer (some { block := b11, off := 0 }), Value.pointer (some { block := b12, off := 0 }), Value.pointer (some { block := b13, off := 0 }), Value.pointer (some { block := b14, off := 0 }), Value.pointer (some { block := b15, off := 0 }), Value.pointer (some { block := b16, off := 0 }), Value.pointer (some { block := b17, off := 0 }), Value.pointer (some { block := b18, off := 0 }), Value.pointer (some { block := b19, off := 0 }), Value.pointer none, Value.pointer none, Value.pointer none, Value.pointer none, Value.pointer none, Value.pointer none]) hs1 rfl (by kernel_rfl) (by kernel_rfl) (by kernel_rfl) fun w39 hs2 => ?_)
  simp only [List.set_cons_zero, List.set_cons_succ] at hs2
  clear hs1
  refine To.run 6 ?_
  have hs := hs2.turn3.laneGrow
  clear hs2
  refine To.run 1 ?_
  refine To.at (fn := Try.f55) (n := 13) (l := [(1, Value.int IntKind.i64 room), (6, Value.pointer (some { block := b1, off := 0 })), (7, Value.int IntKind.i64 3), (20, Value.int IntKind.i64 3), (23, Value.int IntKind.i64 4)]) (by kernel_rfl) fun j => ?_
  refine To.run 17 ?_
  refine To.one (One.call 2 [] [0, 1] (g := 13) (args := [Value.int IntKind.i64 room]) (by kernel_rfl) hs (NewI_ok (room) (by assumption) (by assumption)) (by decide) rfl ?_)
  rintro _ _ w40 ⟨b20, c19, rfl, rfl⟩ hs1
  simp only [pickAll, List.filterMap_cons, List.filterMap_nil, List.getElem?_cons_zero, List.getElem?_cons_succ, List.cons_append, List.nil_append, List.drop_succ_cons, List.drop_zero] at hs1
  clear hs
  refine To.run 23 ?_
  refine To.one (One.store 2 (t := 25) (off := 20) (v := Value.pointer (some { block := b20, off := 0 })) (vs' := [Value.int IntKind.i64 dcs, Value.pointer (some { block := b, off := 0 }), Value.pointer (some { block := b2, off := 0 }), Value.pointer (some { block := b3, off := 0 }), Value.pointer (some { block := b4, off := 0 }), Value.pointer (some { block := b5, off := 0 }), Value.pointer (some { block := b6, off := 0 }), Value.pointer (some { block := b7, off := 0 }), Value.pointer (some { block := b8, off := 0 }), Value.pointer (some { block := b9, off := 0 }), Value.pointer (some { block := b10, off := 0 }), Value.pointer (some { block := b11, off := 0 }), Value.pointer (some { block := b12, off := 0 }), Value.pointer (some { block := b13, off := 0 }), Value.pointer (some { block := b14, off := 0 }), Value.pointer (some { block := b15, off := 0 }), Value.pointer (some { block := b16, off := 0 }), Value.pointer (some { block := b17, off := 0 }), Value.pointer (some { block := b18, off := 0 }), Value.pointer (some { block := b19, off := 0 }), Value.pointer (some { block := b20, off := 0 }), Value.pointer none, Value.pointer none, Value.pointer none, Value.pointer none, Value.pointer none]) hs1 rfl (by kernel_rfl) (by kernel_rfl) (by kernel_rfl) fun w41 hs2 => ?_)
  simp only [List.set_cons_zero, List.set_cons_succ] at hs2
  clear hs1
  refine To.run 6 ?_
  have hs := hs2.turn3.laneGrow
  clear hs2
  refine To.run 1 ?_
  refine To.at (fn := Try.f55) (n := 13) (l := [(1, Value.int IntKind.i64 room), (6, Value.pointer (some { block := b1, off := 0 })), (7, Value.int IntKind.i64 3), (20, Value.int IntKind.i64 3), (23, Value.int IntKind.i64 5)]) (by kernel_rfl) fun j => ?_
  refine To.run 12 ?_
  refine To.run 1 ?_
  refine To.at (fn := Try.f55) (n := 7) (l := [(1, Value.int IntKind.i64 room), (6, Value.pointer (some { block := b1, off := 0 })), (20, Value.int IntKind.i64 4)]) (by kernel_rfl) fun j => ?_
  refine To.run 19 ?_
  refine To.run 1 ?_
  refine To.at (fn := Try.f55) (n := 13) (l := [(1, Value.int IntKind.i64 room), (6, Value.pointer (some { block := b1, off := 0 })), (7, Value.int IntKind.i64 4), (20, Value.int IntKind.i64 4), (23, Value.int IntKind.i64 0)]) (by kernel_rfl) fun j => ?_
  refine To.run 17 ?_
  refine To.one (One.call 2 [] [0, 1] (g := 13) (args := [Value.int IntKind.i64 room]) (by kernel_rfl) hs (NewI_ok (room) (by assumption) (by assumption)) (by decide) rfl ?_)
  rintro _ _ w42 ⟨b21, c20, rfl, rfl⟩ hs1
  simp only [pickAll, List.filterMap_cons, List.filterMap_nil, List.getElem?_cons_zero, List.getElem?_cons_succ, List.cons_append, List.nil_append, List.drop_succ_cons, List.drop_zero] at hs1
  clear hs
  refine To.run 23 ?_
  refine To.one (One.store 2 (t := 25) (off := 21) (v := Value.pointer (some { block := b21, off := 0 })) (vs' := [Value.int IntKind.i64 dcs, Value.pointer (some { block := b, off := 0 }), Value.pointer (some { block := b2, off := 0 }), Value.pointer (some { block := b3, off := 0 }), Value.pointer (some { block := b4, off := 0 }), Value.pointer (some { block := b5, off := 0 }), Value.pointer (some { block := b6, off := 0 }), Value.pointer (some { block := b7, off := 0 }), Value.pointer (some { block := b8, off := 0 }), Value.pointer (some { block := b9, off := 0 }), Value.pointer (some { block := b10, off := 0 }), Value.pointer (some { block := b11, off := 0 }), Value.pointer (some { block := b12, off := 0 }), Value.pointer (some { block := b13, off := 0 }), Value.pointer (some { block := b14, off := 0 }), Value.pointer (some { block := b15, off := 0 }), Value.pointer (some { block := b16, off := 0 }), Value.pointer (some { block := b17, off := 0 }), Value.pointer (some { block := b18, off := 0 }), Value.pointer (some { block := b19, off := 0 }), Value.pointer (some { block := b20, off := 0 }), Value.pointer (some { block := b21, off := 0 }), Value.pointer none, Value.pointer none, Value.pointer none, Value.pointer none]) hs1 rfl (by kernel_rfl) (by kernel_rfl) (by kernel_rfl) fun w43 hs2 => ?_)
  simp only [List.set_cons_zero, List.set_cons_succ] at hs2
  clear hs1
  refine To.run 6 ?_
  have hs := hs2.turn3.laneGrow
  clear hs2
  refine To.run 1 ?_
  refine To.at (fn := Try.f55) (n := 13) (l := [(1, Value.int IntKind.i64 room), (6, Value.pointer (some { block := b1, off := 0 })), (7, Value.int IntKind.i64 4), (20, Value.int IntKind.i64 4), (23, Value.int IntKind.i64 1)]) (by kernel_rfl) fun j => ?_
  refine To.run 17 ?_
  refine To.one (One.call 2 [] [0, 1] (g := 13) (args := [Value.int IntKind.i64 room]) (by kernel_rfl) hs (NewI_ok (room) (by assumption) (by assumption)) (by decide) rfl ?_)
  rintro _ _ w44 ⟨b22, c21, rfl, rfl⟩ hs1
  simp only [pickAll, List.filterMap_cons, List.filterMap_nil, List.getElem?_cons_zero, List.getElem?_cons_succ, List.cons_append, List.nil_append, List.drop_succ_cons, List.drop_zero] at hs1
  clear hs
  refine To.run 23 ?_
  refine To.one (One.store 2 (t := 25) (off := 22) (v := Value.pointer (some { block := b22, off := 0 })) (vs' := [Value.int IntKind.i64 dcs, Value.pointer (some { block := b, off := 0 }), Value.pointer (some { block := b2, off := 0 }), Value.pointer (some { block := b3, off := 0 }), Value.pointer (some { block := b4, off := 0 }), Value.pointer (some { block := b5, off := 0 }), Value.pointer (some { block := b6, off := 0 }), Value.pointer (some { block := b7, off := 0 }), Value.pointer (some { block := b8, off := 0 }), Value.pointer (some { block := b9, off := 0 }), Value.pointer (some { block := b10, off := 0 }), Value.pointer (some { block := b11, off := 0 }), Value.pointer (some { block := b12, off := 0 }), Value.pointer (some { block := b13, off := 0 }), Value.pointer (some { block := b14, off := 0 }), Value.pointer (some { block := b15, off := 0 }), Value.pointer (some { block := b16, off := 0 }), Value.pointer (some { block := b17, off := 0 }), Value.pointer (some { block := b18, off := 0 }), Value.pointer (some { block := b19, off := 0 }), Value.pointer (some { block := b20, off := 0 }), Value.pointer (some { block := b21, off := 0 }), Value.pointer (some { block := b22, off := 0 }), Value.pointer none, Value.pointer none, Value.pointer none]) hs1 rfl (by kernel_rfl) (by kernel_rfl) (by kernel_rfl) fun w45 hs2 => ?_)
  simp only [List.set_cons_zero, List.set_cons_succ] at hs2
  clear hs1
  refine To.run 6 ?_
  have hs := hs2.turn3.laneGrow
  clear hs2
  refine To.run 1 ?_
  refine To.at (fn := Try.f55) (n := 13) (l := [(1, Value.int IntKind.i64 room), (6, Value.pointer (some { block := b1, off := 0 })), (7, Value.int IntKind.i64 4), (20, Value.int IntKind.i64 4), (23, Value.int IntKind.i64 2)]) (by kernel_rfl) fun j => ?_
  refine To.run 17 ?_
  refine To.one (One.call 2 [] [0, 1] (g := 13) (args := [Value.int IntKind.i64 room]) (by kernel_rfl) hs (NewI_ok (room) (by assumption) (by assumption)) (by decide) rfl ?_)
  rintro _ _ w46 ⟨b23, c22, rfl, rfl⟩ hs1
  simp only [pickAll, List.filterMap_cons, List.filterMap_nil, List.getElem?_cons_zero, List.getElem?_cons_succ, List.cons_append, List.nil_append, List.drop_succ_cons, List.drop_zero] at hs1
  clear hs
  refine To.run 23 ?_
  refine To.one (One.store 2 (t := 25) (off := 23) (v := Value.pointer (some { block := b23, off := 0 })) (vs' := [Value.int IntKind.i64 dcs, Value.pointer (some { block := b, off := 0 }), Value.pointer (some { block := b2, off := 0 }), Value.pointer (some { block := b3, off := 0 }), Value.pointer (some { block := b4, off := 0 }), Value.pointer (some { block := b5, off := 0 }), Value.pointer (some { block := b6, off := 0 }), Value.pointer (some { block := b7, off := 0 }), Value.pointer (some { block := b8, off := 0 }), Value.pointer (some { block := b9, off := 0 }), Value.pointer (some { block := b10, off := 0 }), Value.pointer (some { block := b11, off := 0 }), Value.pointer (some { block := b12, off := 0 }), Value.pointer (some { block := b13, off := 0 }), Value.pointer (some { block := b14, off := 0 }), Value.pointer (some { block := b15, off := 0 }), Value.pointer (some { block := b16, off := 0 }), Value.pointer (some { block := b17, off := 0 }), Value.pointer (some { block := b18, off := 0 }), Value.pointer (some { block := b19, off := 0 }), Value.pointer (some { block := b20, off := 0 }), Value.pointer (some { block := b21, off := 0 }), Value.pointer (some { block := b22, off := 0 }), Value.pointer (some { block := b23, off := 0 }), Value.pointer none, Value.pointer none]) hs1 rfl (by kernel_rfl) (by kernel_rfl) (by kernel_rfl) fun w47 hs2 => ?_)
  simp only [List.set_cons_zero, List.set_cons_succ] at hs2
  clear hs1
  refine To.run 6 ?_
  have hs := hs2.turn3.laneGrow
  clear hs2
  refine To.run 1 ?_
  refine To.at (fn := Try.f55) (n := 13) (l := [(1, Value.int IntKind.i64 room), (6, Value.pointer (some { block := b1, off := 0 })), (7, Value.int IntKind.i64 4), (20, Value.int IntKind.i64 4), (23, Value.int IntKind.i64 3)]) (by kernel_rfl) fun j => ?_
  refine To.run 17 ?_
  refine To.one (One.call 2 [] [0, 1] (g := 13) (args := [Value.int IntKind.i64 room]) (by kernel_rfl) hs (NewI_ok (room) (by assumption) (by assumption)) (by decide) rfl ?_)
  rintro _ _ w48 ⟨b24, c23, rfl, rfl⟩ hs1
  simp only [pickAll, List.filterMap_cons, List.filterMap_nil, List.getElem?_cons_zero, List.getElem?_cons_succ, List.cons_append, List.nil_append, List.drop_succ_cons, List.drop_zero] at hs1
  clear hs
  refine To.run 23 ?_
  refine To.one (One.store 2 (t := 25) (off := 24) (v := Value.pointer (some { block := b24, off := 0 })) (vs' := [Value.int IntKind.i64 dcs, Value.pointer (some { block := b, off := 0 }), Value.pointer (some { block := b2, off := 0 }), Value.pointer (some { block := b3, off := 0 }), Value.pointer (some { block := b4, off := 0 }), Value.pointer (some { block := b5, off := 0 }), Value.pointer (some { block := b6, off := 0 }), Value.pointer (some { block := b7, off := 0 }), Value.pointer (some { block := b8, off := 0 }), Value.pointer (some { block := b9, off := 0 }), Value.pointer (some { block := b10, off := 0 }), Value.pointer (some { block := b11, off := 0 }), Value.pointer (some { block := b12, off := 0 }), Value.pointer (some { block := b13, off := 0 }), Value.pointer (some { block := b14, off := 0 }), Value.pointer (some { block := b15, off := 0 }), Value.pointer (some { block := b16, off := 0 }), Value.pointer (some { block := b17, off := 0 }), Value.pointer (some { block := b18, off := 0 }), Value.pointer (some { block := b19, off := 0 }), Value.pointer (some { block := b20, off := 0 }), Value.pointer (some { block := b21, off := 0 }), Value.pointer (some { block := b22, off := 0 }), Value.pointer (some { block := b23, off := 0 }), Value.pointer (some { block := b24, off := 0 }), Value.pointer none]) hs1 rfl (by kernel_rfl) (by kernel_rfl) (by kernel_rfl) fun w49 hs2 => ?_)
  simp only [List.set_cons_zero, List.set_cons_succ] at hs2
  clear hs1
  refine To.run 6 ?_
  have hs := hs2.turn3.laneGrow
  clear hs2
  refine To.run 1 ?_
  refine To.at (fn := Try.f55) (n := 13) (l := [(1, Value.int IntKind.i64 room), (6, Value.pointer (some { block := b1, off := 0 })), (7, Value.int IntKind.i64 4), (20, Value.int IntKind.i64 4), (23, Value.int IntKind.i64 4)]) (by kernel_rfl) fun j => ?_
  refine To.run 17 ?_
  refine To.one (One.call 2 [] [0, 1] (g := 13) (args := [Value.int IntKind.i64 room]) (by kernel_rfl) hs (NewI_ok (room) (by assumption) (by assumption)) (by decide) rfl ?_)
  rintro _ _ w50 ⟨b25, c24, rfl, rfl⟩ hs1
  simp only [pickAll, List.filterMap_cons, List.filterMap_nil, List.getElem?_cons_zero, List.getElem?_cons_succ, List.cons_append, List.nil_append, List.drop_succ_cons, List.drop_zero] at hs1
  clear hs
  refine To.run 23 ?_
  refine To.one (One.store 2 (t := 25) (off := 25) (v := Value.pointer (some { block := b25, off := 0 })) (vs' := [Value.int IntKind.i64 dcs, Value.pointer (some { block := b, off := 0 }), Value.pointer (some { block := b2, off := 0 }), Value.pointer (some { block := b3, off := 0 }), Value.pointer (some { block := b4, off := 0 }), Value.pointer (some { block := b5, off := 0 }), Value.pointer (some { block := b6, off := 0 }), Value.pointer (some { block := b7, off := 0 }), Value.pointer (some { block := b8, off := 0 }), Value.pointer (some { block := b9, off := 0 }), Value.pointer (some { block := b10, off := 0 }), Value.pointer (some { block := b11, off := 0 }), Value.pointer (some { block := b12, off := 0 }), Value.pointer (some { block := b13, off := 0 }), Value.pointer (some { block := b14, off := 0 }), Value.pointer (some { block := b15, off := 0 }), Value.pointer (some { block := b16, off := 0 }), Value.pointer (some { block := b17, off := 0 }), Value.pointer (some { block := b18, off := 0 }), Value.pointer (some { block := b19, off := 0 }), Value.pointer (some { block := b20, off := 0 }), Value.pointer (some { block := b21, off := 0 }), Value.pointer (some { block := b22, off := 0 }), Value.pointer (some { block := b23, off := 0 }), Value.pointer (some { block := b24, off := 0 }), Value.pointer (some { block := b25, off := 0 })]) hs1 rfl (by kernel_rfl) (by kernel_rfl) (by kernel_rfl) fun w51 hs2 => ?_)
  simp only [List.set_cons_zero, List.set_cons_succ] at hs2
  clear hs1
  refine To.run 6 ?_
  have hs := hs2.turn3.laneGrow
  clear hs2
  refine To.run 1 ?_
  refine To.at (fn := Try.f55) (n := 13) (l := [(1, Value.int IntKind.i64 room), (6, Value.pointer (some { block := b1, off := 0 })), (7, Value.int IntKind.i64 4), (20, Value.int IntKind.i64 4), (23, Value.int IntKind.i64 5)]) (by kernel_rfl) fun j => ?_
  refine To.run 12 ?_
  refine To.run 1 ?_
  refine To.at (fn := Try.f55) (n := 7) (l := [(1, Value.int IntKind.i64 room), (6, Value.pointer (some { block := b1, off := 0 })), (20, Value.int IntKind.i64 5)]) (by kernel_rfl) fun j => ?_
  refine To.run 13 ?_
  refine To.retv Try.func55 (by kernel_rfl) (v := Value.tuple #[Value.pointer (some { block := b1, off := 0 }), Value.int IntKind.i64 0]) (by kernel_rfl) ?_
  exact newIDone hs rfl

end Go.Proofs.Ythojpcfaaiefhaa
