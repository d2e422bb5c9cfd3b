import Derived.Test.YthojpcfaaiefhaaProg
import Derived.Test.YthojpcfaaiefhaaSxLaw
import Derived.Test.YthojpcfaaiefhaaLane
set_option linter.unusedSimpArgs false
set_option linter.unusedVariables false
namespace Go.Proofs.Ythojpcfaaiefhaa
open Go Go.Sx
set_option linter.unusedSimpArgs false

theorem DrainI_one (b c cap : Nat) (x : Int) : Trip Try.prog 15 [.pointer (some ⟨b, 0, none⟩)] [cel b 103 [.chan (some c)], chn c cap [.int .i64 x]] (fun v l => ∃ s p, v = .slice s 1 p ∧ l = [cel b 103 [.chan (some c)], chn c cap [], row s p 3 [.int .i64 x]]) :=
  DrainI_ok b c cap [x] (by simp)

theorem examples5_ok : Trip Try.prog 12 [] [] (fun v l => v = .bool true ∧ l = []) := by
  refine Trip.of Try.func12 (by kernel_rfl) fun E w L hs => ?_
  simp only [List.cons_append, List.nil_append] at hs
  refine To.run 6 ?_
  refine To.one (One.call 0 [] [] (g := 13) (args := [Value.int IntKind.i64 0]) (by kernel_rfl) hs (NewI_bad (0) (by omega)) (by decide) rfl ?_)
  rintro _ _ w1 ⟨rfl, rfl⟩ hs1
  simp only [pickAll, List.filterMap_cons, List.filterMap_nil, List.getElem?_cons_zero, List.getElem?_cons_succ, List.cons_append, List.nil_append, List.drop_succ_cons, List.drop_zero] at hs1
  clear hs
  refine To.run 8 ?_
  refine To.one (One.call 0 [] [] (g := 13) (args := [Value.int IntKind.i64 2]) (by kernel_rfl) hs1 (NewI_ok (2) (by omega) (by omega)) (by decide) rfl ?_)
  rintro _ _ w2 ⟨b, c, rfl, rfl⟩ hs2
  simp only [pickAll, List.filterMap_cons, List.filterMap_nil, List.getElem?_cons_zero, List.getElem?_cons_succ, List.cons_append, List.nil_append, List.drop_succ_cons, List.drop_zero] at hs2
  clear hs1
  refine To.run 17 ?_
  refine To.one (One.call 2 [0, 1] [] (g := 17) (args := [Value.pointer (some { block := b, off := 0 })]) (by kernel_rfl) hs2 (TakeI_none (b) (c) (Int.toNat 2)) (by decide) rfl ?_)
  rintro _ _ w3 ⟨rfl, rfl⟩ hs1
  simp only [pickAll, List.filterMap_cons, List.filterMap_nil, List.getElem?_cons_zero, List.getElem?_cons_succ, List.cons_append, List.nil_append, List.drop_succ_cons, List.drop_zero] at hs1
  clear hs2
  refine To.run 9 ?_
  refine To.one (One.call 2 [0, 1] [] (g := 19) (args := [Value.pointer (some { block := b, off := 0 }), Value.int IntKind.i64 7]) (by kernel_rfl) hs1 (PutI_room (b) (c) (Int.toNat 2) ([]) (Value.int IntKind.i64 7) (by decide)) (by decide) rfl ?_)
  rintro _ _ w4 ⟨rfl, rfl⟩ hs2
  simp only [pickAll, List.filterMap_cons, List.filterMap_nil, List.getElem?_cons_zero, List.getElem?_cons_succ, List.cons_append, List.nil_append, List.drop_succ_cons, List.drop_zero] at hs2
  clear hs1
  refine To.run 5 ?_
  refine To.one (One.call 2 [0, 1] [] (g := 19) (args := [Value.pointer (some { block := b, off := 0 }), Value.int IntKind.i64 8]) (by kernel_rfl) hs2 (PutI_room (b) (c) (Int.toNat 2) ([Value.int IntKind.i64 7]) (Value.int IntKind.i64 8) (by decide)) (by decide) rfl ?_)
  rintro _ _ w5 ⟨rfl, rfl⟩ hs1
  simp only [pickAll, List.filterMap_cons, List.filterMap_nil, List.getElem?_cons_zero, List.getElem?_cons_succ, List.cons_append, List.nil_append, List.drop_succ_cons, List.drop_zero] at hs1
  clear hs2
  refine To.run 5 ?_
  refine To.one (One.call 2 [0, 1] [] (g := 19) (args := [Value.pointer (some { block := b, off := 0 }), Value.int IntKind.i64 9]) (by kernel_rfl) hs1 (PutI_full (b) (c) (Int.toNat 2) ([Value.int IntKind.i64 7, Value.int IntKind.i64 8]) (Value.int IntKind.i64 9) (by decide)) (by decide) rfl ?_)
  rintro _ _ w6 ⟨rfl, rfl⟩ hs2
  simp only [pickAll, List.filterMap_cons, List.filterMap_nil, List.getElem?_cons_zero, List.getElem?_cons_succ, List.cons_append, List.nil_append, List.drop_succ_cons, List.drop_zero] at hs2
  clear hs1
  refine To.run 5 ?_
  refine To.one (One.call 2 [0, 1] [] (g := 17) (args := [Value.pointer (some { block := b, off := 0 })]) (by kernel_rfl) hs2 (TakeI_some (b) (c) (Int.toNat 2) (Value.int IntKind.i64 7) ([Value.int IntKind.i64 8])) (by decide) rfl ?_)
  rintro _ _ w7 ⟨rfl, rfl⟩ hs1
  simp only [pickAll, List.filterMap_cons, List.filterMap_nil, List.getElem?_cons_zero, List.getElem?_cons_succ, List.cons_append, List.nil_append, List.drop_succ_cons, List.drop_zero] at hs1
  clear hs2
  refine To.run 9 ?_
  refine To.one (One.call 2 [0, 1] [] (g := 15) (args := [Value.pointer (some { block := b, off := 0 })]) (by kernel_rfl) hs1 (DrainI_one (b) (c) (Int.toNat 2) (8)) (by decide) rfl ?_)
  rintro _ _ w8 ⟨s, p, rfl, rfl⟩ hs2
  simp only [pickAll, List.filterMap_cons, List.filterMap_nil, List.getElem?_cons_zero, List.getElem?_cons_succ, List.cons_append, List.nil_append, List.drop_succ_cons, List.drop_zero] at hs2
  clear hs1
  refine To.run 38 ?_
  obtain ⟨b1, rfl⟩ := Sat.rowAddr hs2 2 rfl (by first | omega | (simp; done) | (simp; omega))
  refine To.run 1 ?_
  refine To.one (One.loadRow 2 (0) (t := 3) (b := b1) (off := 0) (u := Value.int IntKind.i64 8) hs2 rfl (by kernel_rfl) (by first | rfl | omega) (rfl) (by kernel_rfl) ?_)
  refine To.run 4 ?_
  refine To.one (One.call 3 [0, 1] [2] (g := 21) (args := [Value.pointer (some { block := b, off := 0 })]) (by kernel_rfl) hs2 (LenI_ok (b) (c) (Int.toNat 2) ([])) (by decide) rfl ?_)
  rintro _ _ w9 ⟨rfl, rfl⟩ hs1
  simp only [pickAll, List.filterMap_cons, List.filterMap_nil, List.getElem?_cons_zero, List.getElem?_cons_succ, List.cons_append, List.nil_append, List.drop_succ_cons, List.drop_zero] at hs1
  clear hs2
  refine To.run 4 ?_
  refine To.one (One.call 3 [0, 1] [2] (g := 22) (args := [Value.pointer (some { block := b, off := 0 })]) (by kernel_rfl) hs1 (RoomI_ok (b) (c) (Int.toNat 2) ([])) (by decide) rfl ?_)
  rintro _ _ w10 ⟨rfl, rfl⟩ hs2
  simp only [pickAll, List.filterMap_cons, List.filterMap_nil, List.getElem?_cons_zero, List.getElem?_cons_succ, List.cons_append, List.nil_append, List.drop_succ_cons, List.drop_zero] at hs2
  clear hs1
  refine To.run 4 ?_
  refine To.retv Try.func12 (by kernel_rfl) (v := Value.bool true) (by kernel_rfl) ?_
  exact ⟨_, _, rfl, ⟨rfl, rfl⟩, hs2.sub (List.sublist_append_right [_, _, _] L)⟩
end Go.Proofs.Ythojpcfaaiefhaa
