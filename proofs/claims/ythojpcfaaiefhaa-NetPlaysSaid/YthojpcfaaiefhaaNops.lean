import Derived.Test.YthojpcfaaiefhaaProg
import Derived.Test.YthojpcfaaiefhaaSxLaw
import Derived.Test.YthojpcfaaiefhaaNof
set_option linter.unusedSimpArgs false
set_option linter.unusedVariables false
namespace Go.Proofs.Ythojpcfaaiefhaa
open Go Go.Sx
set_option linter.unusedSimpArgs false
set_option maxHeartbeats 0

theorem ln_lt {dcs f t : Int} (h4 : dcs ≤ 4) (h : isLane dcs f t) : ln f t < 25 := by
  obtain ⟨h1, h2, h3, h5, h6⟩ := h
  unfold ln
  omega

theorem NLenS_no (nb R : Nat) (dcs f t : Int) (B C : Nat → Nat) (X : Nat → List Value) (h : ¬ isLane dcs f t) : Trip Try.prog 51 [.pointer (some ⟨nb, 0, none⟩), .int .i64 f, .int .i64 t] [cel nb 119 (netCells dcs B), lanes 25 106 R B C X]
    (fun v l => v = .int .i64 0 ∧ l = [cel nb 119 (netCells dcs B), lanes 25 106 R B C X]) := by
  refine Trip.of Try.func51 (by kernel_rfl) fun E w L hs => ?_
  simp only [List.cons_append, List.nil_append] at hs
  refine To.run 10 ?_
  refine To.one (One.call 2 [0] [1] (g := 63) (args := [Value.pointer (some { block := nb, off := 0 }), Value.int IntKind.i64 f, Value.int IntKind.i64 t]) (by kernel_rfl) hs (ofS_no (nb) (dcs) (f) (t) (B) (by assumption)) (by decide) rfl ?_)
  rintro _ _ w1 ⟨rfl, rfl⟩ hs1
  simp only [pickAll, List.filterMap_cons, List.filterMap_nil, List.getElem?_cons_zero, List.getElem?_cons_succ, List.cons_append, List.nil_append, List.drop_succ_cons, List.drop_zero] at hs1
  clear hs
  refine To.run 13 ?_
  refine To.retv Try.func51 (by kernel_rfl) (v := Value.int IntKind.i64 0) (by kernel_rfl) ?_
  exact ⟨_, _, rfl, ⟨rfl, rfl⟩, hs1⟩

theorem NLenS_is (nb R : Nat) (dcs f t : Int) (B C : Nat → Nat) (X : Nat → List Value) (h4 : dcs ≤ 4) (h : isLane dcs f t) : Trip Try.prog 51 [.pointer (some ⟨nb, 0, none⟩), .int .i64 f, .int .i64 t] [cel nb 119 (netCells dcs B), lanes 25 106 R B C X]
    (fun v l => v = .int .i64 (X (ln f t)).length ∧ l = [cel nb 119 (netCells dcs B), lanes 25 106 R B C X]) := by
  refine Trip.of Try.func51 (by kernel_rfl) fun E w L hs => ?_
  simp only [List.cons_append, List.nil_append] at hs
  have hs := Sat.laneOut (ln f t) (ln_lt h4 h) hs
  refine To.run 10 ?_
  refine To.one (One.call 4 [0] [1, 2, 3] (g := 63) (args := [Value.pointer (some { block := nb, off := 0 }), Value.int IntKind.i64 f, Value.int IntKind.i64 t]) (by kernel_rfl) hs (ofS_is (nb) (dcs) (f) (t) (B) (by assumption) (by assumption)) (by decide) rfl ?_)
  rintro _ _ w1 ⟨rfl, rfl⟩ hs1
  simp only [pickAll, List.filterMap_cons, List.filterMap_nil, List.getElem?_cons_zero, List.getElem?_cons_succ, List.cons_append, List.nil_append, List.drop_succ_cons, List.drop_zero] at hs1
  clear hs
  refine To.run 11 ?_
  refine To.one (One.call 4 [1, 2] [0, 3] (g := 25) (args := [Value.pointer (some { block := B (ln f t), off := 0 })]) (by kernel_rfl) hs1 (LenS_ok (B (ln f t)) (C (ln f t)) (R) (X (ln f t))) (by decide) rfl ?_)
  rintro _ _ w2 ⟨rfl, rfl⟩ hs2
  simp only [pickAll, List.filterMap_cons, List.filterMap_nil, List.getElem?_cons_zero, List.getElem?_cons_succ, List.cons_append, List.nil_append, List.drop_succ_cons, List.drop_zero] at hs2
  clear hs1
  refine To.run 2 ?_
  refine To.retv Try.func51 (by kernel_rfl) (v := Value.int IntKind.i64 (↑(X (ln f t)).length : Int)) (by kernel_rfl) ?_
  exact ⟨_, _, rfl, ⟨rfl, rfl⟩, Sat.laneSame (ln f t) (ln_lt h4 h) hs2.turn3⟩

theorem NSendS_no (nb R : Nat) (dcs f t : Int) (B C : Nat → Nat) (X : Nat → List Value) (h : ¬ isLane dcs f t) (x : Value) : Trip Try.prog 49 [.pointer (some ⟨nb, 0, none⟩), .int .i64 f, .int .i64 t, x] [cel nb 119 (netCells dcs B), lanes 25 106 R B C X]
    (fun v l => v = .bool false ∧ l = [cel nb 119 (netCells dcs B), lanes 25 106 R B C X]) := by
  refine Trip.of Try.func49 (by kernel_rfl) fun E w L hs => ?_
  simp only [List.cons_append, List.nil_append] at hs
  refine To.run 9 ?_
  refine To.one (One.call 2 [0] [1] (g := 63) (args := [Value.pointer (some { block := nb, off := 0 }), Value.int IntKind.i64 f, Value.int IntKind.i64 t]) (by kernel_rfl) hs (ofS_no (nb) (dcs) (f) (t) (B) (by assumption)) (by decide) rfl ?_)
  rintro _ _ w1 ⟨rfl, rfl⟩ hs1
  simp only [pickAll, List.filterMap_cons, List.filterMap_nil, List.getElem?_cons_zero, List.getElem?_cons_succ, List.cons_append, List.nil_append, List.drop_succ_cons, List.drop_zero] at hs1
  clear hs
  refine To.run 13 ?_
  refine To.retv Try.func49 (by kernel_rfl) (v := Value.bool false) (by kernel_rfl) ?_
  exact ⟨_, _, rfl, ⟨rfl, rfl⟩, hs1⟩

theorem NSendS_room (nb R : Nat) (dcs f t : Int) (B C : Nat → Nat) (X : Nat → List Value) (h4 : dcs ≤ 4) (h : isLane dcs f t) (hr : (X (ln f t)).length < R) (x : Value) : Trip Try.prog 49 [.pointer (some ⟨nb, 0, none⟩), .int .i64 f, .int .i64 t, x] [cel nb 119 (netCells dcs B), lanes 25 106 R B C X]
    (fun v l => v = .bool true ∧ l = [cel nb 119 (netCells dcs B), lanes 25 106 R B C (putAt X (ln f t) (X (ln f t) ++ [x]))]) := by
  refine Trip.of Try.func49 (by kernel_rfl) fun E w L hs => ?_
  simp only [List.cons_append, List.nil_append] at hs
  have hs := Sat.laneOut (ln f t) (ln_lt h4 h) hs
  refine To.run 9 ?_
  refine To.one (One.call 4 [0] [1, 2, 3] (g := 63) (args := [Value.pointer (some { block := nb, off := 0 }), Value.int IntKind.i64 f, Value.int IntKind.i64 t]) (by kernel_rfl) hs (ofS_is (nb) (dcs) (f) (t) (B) (by assumption) (by assumption)) (by decide) rfl ?_)
  rintro _ _ w1 ⟨rfl, rfl⟩ hs1
  simp only [pickAll, List.filterMap_cons, List.filterMap_nil, List.getElem?_cons_zero, List.getElem?_cons_succ, List.cons_append, List.nil_append, List.drop_succ_cons, List.drop_zero] at hs1
  clear hs
  refine To.run 9 ?_
  refine To.one (One.call 4 [1, 2] [0, 3] (g := 24) (args := [Value.pointer (some { block := B (ln f t), off := 0 }), x]) (by kernel_rfl) hs1 (PutS_room (B (ln f t)) (C (ln f t)) (R) (X (ln f t)) (x) (by assumption)) (by decide) rfl ?_)
  rintro _ _ w2 ⟨rfl, rfl⟩ hs2
  simp only [pickAll, List.filterMap_cons, List.filterMap_nil, List.getElem?_cons_zero, List.getElem?_cons_succ, List.cons_append, List.nil_append, List.drop_succ_cons, List.drop_zero] at hs2
  clear hs1
  refine To.run 3 ?_
  refine To.retv Try.func49 (by kernel_rfl) (v := Value.bool true) (by kernel_rfl) ?_
  exact ⟨_, _, rfl, ⟨rfl, rfl⟩, Sat.laneIn (ln f t) (ln_lt h4 h) hs2.turn3⟩

theorem NSendS_full (nb R : Nat) (dcs f t : Int) (B C : Nat → Nat) (X : Nat → List Value) (h4 : dcs ≤ 4) (h : isLane dcs f t) (hr : R ≤ (X (ln f t)).length) (x : Value) : Trip Try.prog 49 [.pointer (some ⟨nb, 0, none⟩), .int .i64 f, .int .i64 t, x] [cel nb 119 (netCells dcs B), lanes 25 106 R B C X]
    (fun v l => v = .bool false ∧ l = [cel nb 119 (netCells dcs B), lanes 25 106 R B C X]) := by
  refine Trip.of Try.func49 (by kernel_rfl) fun E w L hs => ?_
  simp only [List.cons_append, List.nil_append] at hs
  have hs := Sat.laneOut (ln f t) (ln_lt h4 h) hs
  refine To.run 9 ?_
  refine To.one (One.call 4 [0] [1, 2, 3] (g := 63) (args := [Value.pointer (some { block := nb, off := 0 }), Value.int IntKind.i64 f, Value.int IntKind.i64 t]) (by kernel_rfl) hs (ofS_is (nb) (dcs) (f) (t) (B) (by assumption) (by assumption)) (by decide) rfl ?_)
  rintro _ _ w1 ⟨rfl, rfl⟩ hs1
  simp only [pickAll, List.filterMap_cons, List.filterMap_nil, List.getElem?_cons_zero, List.getElem?_cons_succ, List.cons_append, List.nil_append, List.drop_succ_cons, List.drop_zero] at hs1
  clear hs
  refine To.run 9 ?_
  refine To.one (One.call 4 [1, 2] [0, 3] (g := 24) (args := [Value.pointer (some { block := B (ln f t), off := 0 }), x]) (by kernel_rfl) hs1 (PutS_full (B (ln f t)) (C (ln f t)) (R) (X (ln f t)) (x) (by assumption)) (by decide) rfl ?_)
  rintro _ _ w2 ⟨rfl, rfl⟩ hs2
  simp only [pickAll, List.filterMap_cons, List.filterMap_nil, List.getElem?_cons_zero, List.getElem?_cons_succ, List.cons_append, List.nil_append, List.drop_succ_cons, List.drop_zero] at hs2
  clear hs1
  refine To.run 3 ?_
  refine To.retv Try.func49 (by kernel_rfl) (v := Value.bool false) (by kernel_rfl) ?_
  exact ⟨_, _, rfl, ⟨rfl, rfl⟩, Sat.laneSame (ln f t) (ln_lt h4 h) hs2.turn3⟩

theorem NTakeS_no (nb R : Nat) (dcs f t : Int) (B C : Nat → Nat) (X : Nat → List Value) (h : ¬ isLane dcs f t) : Trip Try.prog 42 [.pointer (some ⟨nb, 0, none⟩), .int .i64 f, .int .i64 t] [cel nb 119 (netCells dcs B), lanes 25 106 R B C X]
    (fun v l => v = .tuple #[Value.string ⟨#[]⟩, .bool false] ∧ l = [cel nb 119 (netCells dcs B), lanes 25 106 R B C X]) := by
  refine Trip.of Try.func42 (by kernel_rfl) fun E w L hs => ?_
  simp only [List.cons_append, List.nil_append] at hs
  refine To.run 11 ?_
  refine To.one (One.call 2 [0] [1] (g := 63) (args := [Value.pointer (some { block := nb, off := 0 }), Value.int IntKind.i64 f, Value.int IntKind.i64 t]) (by kernel_rfl) hs (ofS_no (nb) (dcs) (f) (t) (B) (by assumption)) (by decide) rfl ?_)
  rintro _ _ w1 ⟨rfl, rfl⟩ hs1
  simp only [pickAll, List.filterMap_cons, List.filterMap_nil, List.getElem?_cons_zero, List.getElem?_cons_succ, List.cons_append, List.nil_append, List.drop_succ_cons, List.drop_zero] at hs1
  clear hs
  refine To.run 15 ?_
  refine To.retv Try.func42 (by kernel_rfl) (v := Value.tuple #[Value.string { data := #[] }, Value.bool false]) (by kernel_rfl) ?_
  exact ⟨_, _, rfl, ⟨rfl, rfl⟩, hs1⟩

theorem NTakeS_none (nb R : Nat) (dcs f t : Int) (B C : Nat → Nat) (X : Nat → List Value) (h4 : dcs ≤ 4) (h : isLane dcs f t) (hX : X (ln f t) = []) : Trip Try.prog 42 [.pointer (some ⟨nb, 0, none⟩), .int .i64 f, .int .i64 t] [cel nb 119 (netCells dcs B), lanes 25 106 R B C X]
    (fun v l => v = .tuple #[Value.string ⟨#[]⟩, .bool false] ∧ l = [cel nb 119 (netCells dcs B), lanes 25 106 R B C X]) := by
  refine Trip.of Try.func42 (by kernel_rfl) fun E w L hs => ?_
  simp only [List.cons_append, List.nil_append] at hs
  have hs := Sat.laneOut (ln f t) (ln_lt h4 h) hs
  rw [hX] at hs
  refine To.run 11 ?_
  refine To.one (One.call 4 [0] [1, 2, 3] (g := 63) (args := [Value.pointer (some { block := nb, off := 0 }), Value.int IntKind.i64 f, Value.int IntKind.i64 t]) (by kernel_rfl) hs (ofS_is (nb) (dcs) (f) (t) (B) (by assumption) (by assumption)) (by decide) rfl ?_)
  rintro _ _ w1 ⟨rfl, rfl⟩ hs1
  simp only [pickAll, List.filterMap_cons, List.filterMap_nil, List.getElem?_cons_zero, List.getElem?_cons_succ, List.cons_append, List.nil_append, List.drop_succ_cons, List.drop_zero] at hs1
  clear hs
  refine To.run 11 ?_
  refine To.one (One.call 4 [1, 2] [0, 3] (g := 26) (args := [Value.pointer (some { block := B (ln f t), off := 0 })]) (by kernel_rfl) hs1 (TakeS_none (B (ln f t)) (C (ln f t)) (R)) (by decide) rfl ?_)
  rintro _ _ w2 ⟨rfl, rfl⟩ hs2
  simp only [pickAll, List.filterMap_cons, List.filterMap_nil, List.getElem?_cons_zero, List.getElem?_cons_succ, List.cons_append, List.nil_append, List.drop_succ_cons, List.drop_zero] at hs2
  clear hs1
  refine To.run 5 ?_
  refine To.retv Try.func42 (by kernel_rfl) (v := Value.tuple #[Value.string { data := #[] }, Value.bool false]) (by kernel_rfl) ?_
  exact ⟨_, _, rfl, ⟨rfl, rfl⟩, Sat.laneBack (ln f t) (ln_lt h4 h) hX hs2.turn3⟩

theorem NTakeS_some (nb R : Nat) (dcs f t : Int) (B C : Nat → Nat) (X : Nat → List Value) (h4 : dcs ≤ 4) (h : isLane dcs f t) (x : Value) (xs : List Value) (hX : X (ln f t) = x :: xs) : Trip Try.prog 42 [.pointer (some ⟨nb, 0, none⟩), .int .i64 f, .int .i64 t] [cel nb 119 (netCells dcs B), lanes 25 106 R B C X]
    (fun v l => v = .tuple #[x, .bool true] ∧ l = [cel nb 119 (netCells dcs B), lanes 25 106 R B C (putAt X (ln f t) xs)]) := by
  refine Trip.of Try.func42 (by kernel_rfl) fun E w L hs => ?_
  simp only [List.cons_append, List.nil_append] at hs
  have hs := Sat.laneOut (ln f t) (ln_lt h4 h) hs
  rw [hX] at hs
  refine To.run 11 ?_
  refine To.one (One.call 4 [0] [1, 2, 3] (g := 63) (args := [Value.pointer (some { block := nb, off := 0 }), Value.int IntKind.i64 f, Value.int IntKind.i64 t]) (by kernel_rfl) hs (ofS_is (nb) (dcs) (f) (t) (B) (by assumption) (by assumption)) (by decide) rfl ?_)
  rintro _ _ w1 ⟨rfl, rfl⟩ hs1
  simp only [pickAll, List.filterMap_cons, List.filterMap_nil, List.getElem?_cons_zero, List.getElem?_cons_succ, List.cons_append, List.nil_append, List.drop_succ_cons, List.drop_zero] at hs1
  clear hs
  refine To.run 11 ?_
  refine To.one (One.call 4 [1, 2] [0, 3] (g := 26) (args := [Value.pointer (some { block := B (ln f t), off := 0 })]) (by kernel_rfl) hs1 (TakeS_some (B (ln f t)) (C (ln f t)) (R) (x) (xs)) (by decide) rfl ?_)
  rintro _ _ w2 ⟨rfl, rfl⟩ hs2
  simp only [pickAll, List.filterMap_cons, List.filterMap_nil, List.getElem?_cons_zero, List.getElem?_cons_succ, List.cons_append, List.nil_append, List.drop_succ_cons, List.drop_zero] at hs2
  clear hs1
  refine To.run 5 ?_
  refine To.retv Try.func42 (by kernel_rfl) (v := Value.tuple #[x, Value.bool true]) (by kernel_rfl) ?_
  exact ⟨_, _, rfl, ⟨rfl, rfl⟩, Sat.laneIn (ln f t) (ln_lt h4 h) hs2.turn3⟩

theorem NLoseS_no (nb R : Nat) (dcs f t : Int) (B C : Nat → Nat) (X : Nat → List Value) (h : ¬ isLane dcs f t) : Trip Try.prog 44 [.pointer (some ⟨nb, 0, none⟩), .int .i64 f, .int .i64 t] [cel nb 119 (netCells dcs B), lanes 25 106 R B C X]
    (fun v l => v = .bool false ∧ l = [cel nb 119 (netCells dcs B), lanes 25 106 R B C X]) := by
  refine Trip.of Try.func44 (by kernel_rfl) fun E w L hs => ?_
  simp only [List.cons_append, List.nil_append] at hs
  refine To.run 9 ?_
  refine To.one (One.call 2 [0, 1] [] (g := 42) (args := [Value.pointer (some { block := nb, off := 0 }), Value.int IntKind.i64 f, Value.int IntKind.i64 t]) (by kernel_rfl) hs (NTakeS_no (nb) (R) (dcs) (f) (t) (B) (C) (X) (by assumption)) (by decide) rfl ?_)
  rintro _ _ w1 ⟨rfl, rfl⟩ hs1
  simp only [pickAll, List.filterMap_cons, List.filterMap_nil, List.getElem?_cons_zero, List.getElem?_cons_succ, List.cons_append, List.nil_append, List.drop_succ_cons, List.drop_zero] at hs1
  clear hs
  refine To.run 11 ?_
  refine To.retv Try.func44 (by kernel_rfl) (v := Value.bool false) (by kernel_rfl) ?_
  exact ⟨_, _, rfl, ⟨rfl, rfl⟩, hs1⟩

theorem NLoseS_none (nb R : Nat) (dcs f t : Int) (B C : Nat → Nat) (X : Nat → List Value) (h4 : dcs ≤ 4) (h : isLane dcs f t) (hX : X (ln f t) = []) : Trip Try.prog 44 [.pointer (some ⟨nb, 0, none⟩), .int .i64 f, .int .i64 t] [cel nb 119 (netCells dcs B), lanes 25 106 R B C X]
    (fun v l => v = .bool false ∧ l = [cel nb 119 (netCells dcs B), lanes 25 106 R B C X]) := by
  refine Trip.of Try.func44 (by kernel_rfl) fun E w L hs => ?_
  simp only [List.cons_append, List.nil_append] at hs
  refine To.run 9 ?_
  refine To.one (One.call 2 [0, 1] [] (g := 42) (args := [Value.pointer (some { block := nb, off := 0 }), Value.int IntKind.i64 f, Value.int IntKind.i64 t]) (by kernel_rfl) hs (NTakeS_none (nb) (R) (dcs) (f) (t) (B) (C) (X) (by assumption) (by assumption) (by assumption)) (by decide) rfl ?_)
  rintro _ _ w1 ⟨rfl, rfl⟩ hs1
  simp only [pickAll, List.filterMap_cons, List.filterMap_nil, List.getElem?_cons_zero, List.getElem?_cons_succ, List.cons_append, List.nil_append, List.drop_succ_cons, List.drop_zero] at hs1
  clear hs
  refine To.run 11 ?_
  refine To.retv Try.func44 (by kernel_rfl) (v := Value.bool false) (by kernel_rfl) ?_
  exact ⟨_, _, rfl, ⟨rfl, rfl⟩, hs1⟩

theorem NLoseS_some (nb R : Nat) (dcs f t : Int) (B C : Nat → Nat) (X : Nat → List Value) (h4 : dcs ≤ 4) (h : isLane dcs f t) (x : Value) (xs : List Value) (hX : X (ln f t) = x :: xs) : Trip Try.prog 44 [.pointer (some ⟨nb, 0, none⟩), .int .i64 f, .int .i64 t] [cel nb 119 (netCells dcs B), lanes 25 106 R B C X]
    (fun v l => v = .bool true ∧ l = [cel nb 119 (netCells dcs B), lanes 25 106 R B C (putAt X (ln f t) xs)]) := by
  refine Trip.of Try.func44 (by kernel_rfl) fun E w L hs => ?_
  simp only [List.cons_append, List.nil_append] at hs
  refine To.run 9 ?_
  refine To.one (One.call 2 [0, 1] [] (g := 42) (args := [Value.pointer (some { block := nb, off := 0 }), Value.int IntKind.i64 f, Value.int IntKind.i64 t]) (by kernel_rfl) hs (NTakeS_some nb R dcs f t B C X h4 h x xs hX) (by decide) rfl ?_)
  rintro _ _ w1 ⟨rfl, rfl⟩ hs1
  simp only [pickAll, List.filterMap_cons, List.filterMap_nil, List.getElem?_cons_zero, List.getElem?_cons_succ, List.cons_append, List.nil_append, List.drop_succ_cons, List.drop_zero] at hs1
  clear hs
  refine To.run 11 ?_
  refine To.retv Try.func44 (by kernel_rfl) (v := Value.bool true) (by kernel_rfl) ?_
  exact ⟨_, _, rfl, ⟨rfl, rfl⟩, hs1⟩

theorem NTurnS_no (nb R : Nat) (dcs f t : Int) (B C : Nat → Nat) (X : Nat → List Value) (h : ¬ isLane dcs f t) : Trip Try.prog 47 [.pointer (some ⟨nb, 0, none⟩), .int .i64 f, .int .i64 t] [cel nb 119 (netCells dcs B), lanes 25 106 R B C X]
    (fun v l => v = .bool false ∧ l = [cel nb 119 (netCells dcs B), lanes 25 106 R B C X]) := by
  refine Trip.of Try.func47 (by kernel_rfl) fun E w L hs => ?_
  simp only [List.cons_append, List.nil_append] at hs
  refine To.run 9 ?_
  refine To.one (One.call 2 [0, 1] [] (g := 42) (args := [Value.pointer (some { block := nb, off := 0 }), Value.int IntKind.i64 f, Value.int IntKind.i64 t]) (by kernel_rfl) hs (NTakeS_no (nb) (R) (dcs) (f) (t) (B) (C) (X) (by assumption)) (by decide) rfl ?_)
  rintro _ _ w1 ⟨rfl, rfl⟩ hs1
  simp only [pickAll, List.filterMap_cons, List.filterMap_nil, List.getElem?_cons_zero, List.getElem?_cons_succ, List.cons_append, List.nil_append, List.drop_succ_cons, List.drop_zero] at hs1
  clear hs
  refine To.run 18 ?_
  refine To.retv Try.func47 (by kernel_rfl) (v := Value.bool false) (by kernel_rfl) ?_
  exact ⟨_, _, rfl, ⟨rfl, rfl⟩, hs1⟩

theorem NTurnS_none (nb R : Nat) (dcs f t : Int) (B C : Nat → Nat) (X : Nat → List Value) (h4 : dcs ≤ 4) (h : isLane dcs f t) (hX : X (ln f t) = []) : Trip Try.prog 47 [.pointer (some ⟨nb, 0, none⟩), .int .i64 f, .int .i64 t] [cel nb 119 (netCells dcs B), lanes 25 106 R B C X]
    (fun v l => v = .bool false ∧ l = [cel nb 119 (netCells dcs B), lanes 25 106 R B C X]) := by
  refine Trip.of Try.func47 (by kernel_rfl) fun E w L hs => ?_
  simp only [List.cons_append, List.nil_append] at hs
  refine To.run 9 ?_
  refine To.one (One.call 2 [0, 1] [] (g := 42) (args := [Value.pointer (some { block := nb, off := 0 }), Value.int IntKind.i64 f, Value.int IntKind.i64 t]) (by kernel_rfl) hs (NTakeS_none (nb) (R) (dcs) (f) (t) (B) (C) (X) (by assumption) (by assumption) (by assumption)) (by decide) rfl ?_)
  rintro _ _ w1 ⟨rfl, rfl⟩ hs1
  simp only [pickAll, List.filterMap_cons, List.filterMap_nil, List.getElem?_cons_zero, List.getElem?_cons_succ, List.cons_append, List.nil_append, List.drop_succ_cons, List.drop_zero] at hs1
  clear hs
  refine To.run 18 ?_
  refine To.retv Try.func47 (by kernel_rfl) (v := Value.bool false) (by kernel_rfl) ?_
  exact ⟨_, _, rfl, ⟨rfl, rfl⟩, hs1⟩

theorem NTurnS_some (nb R : Nat) (dcs f t : Int) (B C : Nat → Nat) (X : Nat → List Value) (h4 : dcs ≤ 4) (h : isLane dcs f t) (x : Value) (xs : List Value) (hX : X (ln f t) = x :: xs) (hR : xs.length < R) : Trip Try.prog 47 [.pointer (some ⟨nb, 0, none⟩), .int .i64 f, .int .i64 t] [cel nb 119 (netCells dcs B), lanes 25 106 R B C X]
    (fun v l => v = .bool true ∧ l = [cel nb 119 (netCells dcs B), lanes 25 106 R B C (putAt X (ln f t) (xs ++ [x]))]) := by
  refine Trip.of Try.func47 (by kernel_rfl) fun E w L hs => ?_
  have hR2 : (putAt X (ln f t) xs (ln f t)).length < R := by rw [putAt_same]; exact hR
  simp only [List.cons_append, List.nil_append] at hs
  refine To.run 9 ?_
  refine To.one (One.call 2 [0, 1] [] (g := 42) (args := [Value.pointer (some { block := nb, off := 0 }), Value.int IntKind.i64 f, Value.int IntKind.i64 t]) (by kernel_rfl) hs (NTakeS_some nb R dcs f t B C X h4 h x xs hX) (by decide) rfl ?_)
  rintro _ _ w1 ⟨rfl, rfl⟩ hs1
  simp only [pickAll, List.filterMap_cons, List.filterMap_nil, List.getElem?_cons_zero, List.getElem?_cons_succ, List.cons_append, List.nil_append, List.drop_succ_cons, List.drop_zero] at hs1
  clear hs
  refine To.run 14 ?_
  refine To.one (One.call 2 [0, 1] [] (g := 49) (args := [Value.pointer (some { block := nb, off := 0 }), Value.int IntKind.i64 f, Value.int IntKind.i64 t, x]) (by kernel_rfl) hs1 (NSendS_room (nb) (R) (dcs) (f) (t) (B) (C) (putAt X (ln f t) xs) (by assumption) (by assumption) (by assumption) (x)) (by decide) rfl ?_)
  rintro _ _ w2 ⟨rfl, rfl⟩ hs2
  simp only [pickAll, List.filterMap_cons, List.filterMap_nil, List.getElem?_cons_zero, List.getElem?_cons_succ, List.cons_append, List.nil_append, List.drop_succ_cons, List.drop_zero] at hs2
  clear hs1
  refine To.run 3 ?_
  refine To.retv Try.func47 (by kernel_rfl) (v := Value.bool true) (by kernel_rfl) ?_
  rw [putAt_putAt, putAt_same] at hs2
  exact ⟨_, _, rfl, ⟨rfl, rfl⟩, hs2⟩

theorem NLenI_no (nb R : Nat) (dcs f t : Int) (B C : Nat → Nat) (X : Nat → List Value) (h : ¬ isLane dcs f t) : Trip Try.prog 58 [.pointer (some ⟨nb, 0, none⟩), .int .i64 f, .int .i64 t] [cel nb 128 (netCells dcs B), lanes 25 103 R B C X]
    (fun v l => v = .int .i64 0 ∧ l = [cel nb 128 (netCells dcs B), lanes 25 103 R B C X]) := by
  refine Trip.of Try.func58 (by kernel_rfl) fun E w L hs => ?_
  simp only [List.cons_append, List.nil_append] at hs
  refine To.run 10 ?_
  refine To.one (One.call 2 [0] [1] (g := 66) (args := [Value.pointer (some { block := nb, off := 0 }), Value.int IntKind.i64 f, Value.int IntKind.i64 t]) (by kernel_rfl) hs (ofI_no (nb) (dcs) (f) (t) (B) (by assumption)) (by decide) rfl ?_)
  rintro _ _ w1 ⟨rfl, rfl⟩ hs1
  simp only [pickAll, List.filterMap_cons, List.filterMap_nil, List.getElem?_cons_zero, List.getElem?_cons_succ, List.cons_append, List.nil_append, List.drop_succ_cons, List.drop_zero] at hs1
  clear hs
  refine To.run 13 ?_
  refine To.retv Try.func58 (by kernel_rfl) (v := Value.int IntKind.i64 0) (by kernel_rfl) ?_
  exact ⟨_, _, rfl, ⟨rfl, rfl⟩, hs1⟩

theorem NLenI_is (nb R : Nat) (dcs f t : Int) (B C : Nat → Nat) (X : Nat → List Value) (h4 : dcs ≤ 4) (h : isLane dcs f t) : Trip Try.prog 58 [.pointer (some ⟨nb, 0, none⟩), .int .i64 f, .int .i64 t] [cel nb 128 (netCells dcs B), lanes 25 103 R B C X]
    (fun v l => v = .int .i64 (X (ln f t)).length ∧ l = [cel nb 128 (netCells dcs B), lanes 25 103 R B C X]) := by
  refine Trip.of Try.func58 (by kernel_rfl) fun E w L hs => ?_
  simp only [List.cons_append, List.nil_append] at hs
  have hs := Sat.laneOut (ln f t) (ln_lt h4 h) hs
  refine To.run 10 ?_
  refine To.one (One.call 4 [0] [1, 2, 3] (g := 66) (args := [Value.pointer (some { block := nb, off := 0 }), Value.int IntKind.i64 f, Value.int IntKind.i64 t]) (by kernel_rfl) hs (ofI_is (nb) (dcs) (f) (t) (B) (by assumption) (by assumption)) (by decide) rfl ?_)
  rintro _ _ w1 ⟨rfl, rfl⟩ hs1
  simp only [pickAll, List.filterMap_cons, List.filterMap_nil, List.getElem?_cons_zero, List.getElem?_cons_succ, List.cons_append, List.nil_append, List.drop_succ_cons, List.drop_zero] at hs1
  clear hs
  refine To.run 11 ?_
  refine To.one (One.call 4 [1, 2] [0, 3] (g := 21) (args := [Value.pointer (some { block := B (ln f t), off := 0 })]) (by kernel_rfl) hs1 (LenI_ok (B (ln f t)) (C (ln f t)) (R) (X (ln f t))) (by decide) rfl ?_)
  rintro _ _ w2 ⟨rfl, rfl⟩ hs2
  simp only [pickAll, List.filterMap_cons, List.filterMap_nil, List.getElem?_cons_zero, List.getElem?_cons_succ, List.cons_append, List.nil_append, List.drop_succ_cons, List.drop_zero] at hs2
  clear hs1
  refine To.run 2 ?_
  refine To.retv Try.func58 (by kernel_rfl) (v := Value.int IntKind.i64 (↑(X (ln f t)).length : Int)) (by kernel_rfl) ?_
  exact ⟨_, _, rfl, ⟨rfl, rfl⟩, Sat.laneSame (ln f t) (ln_lt h4 h) hs2.turn3⟩

theorem NSendI_no (nb R : Nat) (dcs f t : Int) (B C : Nat → Nat) (X : Nat → List Value) (h : ¬ isLane dcs f t) (x : Value) : Trip Try.prog 56 [.pointer (some ⟨nb, 0, none⟩), .int .i64 f, .int .i64 t, x] [cel nb 128 (netCells dcs B), lanes 25 103 R B C X]
    (fun v l => v = .bool false ∧ l = [cel nb 128 (netCells dcs B), lanes 25 103 R B C X]) := by
  refine Trip.of Try.func56 (by kernel_rfl) fun E w L hs => ?_
  simp only [List.cons_append, List.nil_append] at hs
  refine To.run 9 ?_
  refine To.one (One.call 2 [0] [1] (g := 66) (args := [Value.pointer (some { block := nb, off := 0 }), Value.int IntKind.i64 f, Value.int IntKind.i64 t]) (by kernel_rfl) hs (ofI_no (nb) (dcs) (f) (t) (B) (by assumption)) (by decide) rfl ?_)
  rintro _ _ w1 ⟨rfl, rfl⟩ hs1
  simp only [pickAll, List.filterMap_cons, List.filterMap_nil, List.getElem?_cons_zero, List.getElem?_cons_succ, List.cons_append, List.nil_append, List.drop_succ_cons, List.drop_zero] at hs1
  clear hs
  refine To.run 13 ?_
  refine To.retv Try.func56 (by kernel_rfl) (v := Value.bool false) (by kernel_rfl) ?_
  exact ⟨_, _, rfl, ⟨rfl, rfl⟩, hs1⟩

theorem NSendI_room (nb R : Nat) (dcs f t : Int) (B C : Nat → Nat) (X : Nat → List Value) (h4 : dcs ≤ 4) (h : isLane dcs f t) (hr : (X (ln f t)).length < R) (x : Value) : Trip Try.prog 56 [.pointer (some ⟨nb, 0, none⟩), .int .i64 f, .int .i64 t, x] [cel nb 128 (netCells dcs B), lanes 25 103 R B C X]
    (fun v l => v = .bool true ∧ l = [cel nb 128 (netCells dcs B), lanes 25 103 R B C (putAt X (ln f t) (X (ln f t) ++ [x]))]) := by
  refine Trip.of Try.func56 (by kernel_rfl) fun E w L hs => ?_
  simp only [List.cons_append, List.nil_append] at hs
  have hs := Sat.laneOut (ln f t) (ln_lt h4 h) hs
  refine To.run 9 ?_
  refine To.one (One.call 4 [0] [1, 2, 3] (g := 66) (args := [Value.pointer (some { block := nb, off := 0 }), Value.int IntKind.i64 f, Value.int IntKind.i64 t]) (by kernel_rfl) hs (ofI_is (nb) (dcs) (f) (t) (B) (by assumption) (by assumption)) (by decide) rfl ?_)
  rintro _ _ w1 ⟨rfl, rfl⟩ hs1
  simp only [pickAll, List.filterMap_cons, List.filterMap_nil, List.getElem?_cons_zero, List.getElem?_cons_succ, List.cons_append, List.nil_append, List.drop_succ_cons, List.drop_zero] at hs1
  clear hs
  refine To.run 9 ?_
  refine To.one (One.call 4 [1, 2] [0, 3] (g := 19) (args := [Value.pointer (some { block := B (ln f t), off := 0 }), x]) (by kernel_rfl) hs1 (PutI_room (B (ln f t)) (C (ln f t)) (R) (X (ln f t)) (x) (by assumption)) (by decide) rfl ?_)
  rintro _ _ w2 ⟨rfl, rfl⟩ hs2
  simp only [pickAll, List.filterMap_cons, List.filterMap_nil, List.getElem?_cons_zero, List.getElem?_cons_succ, List.cons_append, List.nil_append, List.drop_succ_cons, List.drop_zero] at hs2
  clear hs1
  refine To.run 3 ?_
  refine To.retv Try.func56 (by kernel_rfl) (v := Value.bool true) (by kernel_rfl) ?_
  exact ⟨_, _, rfl, ⟨rfl, rfl⟩, Sat.laneIn (ln f t) (ln_lt h4 h) hs2.turn3⟩

theorem NSendI_full (nb R : Nat) (dcs f t : Int) (B C : Nat → Nat) (X : Nat → List Value) (h4 : dcs ≤ 4) (h : isLane dcs f t) (hr : R ≤ (X (ln f t)).length) (x : Value) : Trip Try.prog 56 [.pointer (some ⟨nb, 0, none⟩), .int .i64 f, .int .i64 t, x] [cel nb 128 (netCells dcs B), lanes 25 103 R B C X]
    (fun v l => v = .bool false ∧ l = [cel nb 128 (netCells dcs B), lanes 25 103 R B C X]) := by
  refine Trip.of Try.func56 (by kernel_rfl) fun E w L hs => ?_
  simp only [List.cons_append, List.nil_append] at hs
  have hs := Sat.laneOut (ln f t) (ln_lt h4 h) hs
  refine To.run 9 ?_
  refine To.one (One.call 4 [0] [1, 2, 3] (g := 66) (args := [Value.pointer (some { block := nb, off := 0 }), Value.int IntKind.i64 f, Value.int IntKind.i64 t]) (by kernel_rfl) hs (ofI_is (nb) (dcs) (f) (t) (B) (by assumption) (by assumption)) (by decide) rfl ?_)
  rintro _ _ w1 ⟨rfl, rfl⟩ hs1
  simp only [pickAll, List.filterMap_cons, List.filterMap_nil, List.getElem?_cons_zero, List.getElem?_cons_succ, List.cons_append, List.nil_append, List.drop_succ_cons, List.drop_zero] at hs1
  clear hs
  refine To.run 9 ?_
  refine To.one (One.call 4 [1, 2] [0, 3] (g := 19) (args := [Value.pointer (some { block := B (ln f t), off := 0 }), x]) (by kernel_rfl) hs1 (PutI_full (B (ln f t)) (C (ln f t)) (R) (X (ln f t)) (x) (by assumption)) (by decide) rfl ?_)
  rintro _ _ w2 ⟨rfl, rfl⟩ hs2
  simp only [pickAll, List.filterMap_cons, List.filterMap_nil, List.getElem?_cons_zero, List.getElem?_cons_succ, List.cons_append, List.nil_append, List.drop_succ_cons, List.drop_zero] at hs2
  clear hs1
  refine To.run 3 ?_
  refine To.retv Try.func56 (by kernel_rfl) (v := Value.bool false) (by kernel_rfl) ?_
  exact ⟨_, _, rfl, ⟨rfl, rfl⟩, Sat.laneSame (ln f t) (ln_lt h4 h) hs2.turn3⟩

theorem NTakeI_no (nb R : Nat) (dcs f t : Int) (B C : Nat → Nat) (X : Nat → List Value) (h : ¬ isLane dcs f t) : Trip Try.prog 59 [.pointer (some ⟨nb, 0, none⟩), .int .i64 f, .int .i64 t] [cel nb 128 (netCells dcs B), lanes 25 103 R B C X]
    (fun v l => v = .tuple #[Value.int .i64 0, .bool false] ∧ l = [cel nb 128 (netCells dcs B), lanes 25 103 R B C X]) := by
  refine Trip.of Try.func59 (by kernel_rfl) fun E w L hs => ?_
  simp only [List.cons_append, List.nil_append] at hs
  refine To.run 11 ?_
  refine To.one (One.call 2 [0] [1] (g := 66) (args := [Value.pointer (some { block := nb, off := 0 }), Value.int IntKind.i64 f, Value.int IntKind.i64 t]) (by kernel_rfl) hs (ofI_no (nb) (dcs) (f) (t) (B) (by assumption)) (by decide) rfl ?_)
  rintro _ _ w1 ⟨rfl, rfl⟩ hs1
  simp only [pickAll, List.filterMap_cons, List.filterMap_nil, List.getElem?_cons_zero, List.getElem?_cons_succ, List.cons_append, List.nil_append, List.drop_succ_cons, List.drop_zero] at hs1
  clear hs
  refine To.run 15 ?_
  refine To.retv Try.func59 (by kernel_rfl) (v := Value.tuple #[Value.int IntKind.i64 0, Value.bool false]) (by kernel_rfl) ?_
  exact ⟨_, _, rfl, ⟨rfl, rfl⟩, hs1⟩

theorem NTakeI_none (nb R : Nat) (dcs f t : Int) (B C : Nat → Nat) (X : Nat → List Value) (h4 : dcs ≤ 4) (h : isLane dcs f t) (hX : X (ln f t) = []) : Trip Try.prog 59 [.pointer (some ⟨nb, 0, none⟩), .int .i64 f, .int .i64 t] [cel nb 128 (netCells dcs B), lanes 25 103 R B C X]
    (fun v l => v = .tuple #[Value.int .i64 0, .bool false] ∧ l = [cel nb 128 (netCells dcs B), lanes 25 103 R B C X]) := by
  refine Trip.of Try.func59 (by kernel_rfl) fun E w L hs => ?_
  simp only [List.cons_append, List.nil_append] at hs
  have hs := Sat.laneOut (ln f t) (ln_lt h4 h) hs
  rw [hX] at hs
  refine To.run 11 ?_
  refine To.one (One.call 4 [0] [1, 2, 3] (g := 66) (args := [Value.pointer (some { block := nb, off := 0 }), Value.int IntKind.i64 f, Value.int IntKind.i64 t]) (by kernel_rfl) hs (ofI_is (nb) (dcs) (f) (t) (B) (by assumption) (by assumption)) (by decide) rfl ?_)
  rintro _ _ w1 ⟨rfl, rfl⟩ hs1
  simp only [pickAll, List.filterMap_cons, List.filterMap_nil, List.getElem?_cons_zero, List.getElem?_cons_succ, List.cons_append, List.nil_append, List.drop_succ_cons, List.drop_zero] at hs1
  clear hs
  refine To.run 11 ?_
  refine To.one (One.call 4 [1, 2] [0, 3] (g := 17) (args := [Value.pointer (some { block := B (ln f t), off := 0 })]) (by kernel_rfl) hs1 (TakeI_none (B (ln f t)) (C (ln f t)) (R)) (by decide) rfl ?_)
  rintro _ _ w2 ⟨rfl, rfl⟩ hs2
  simp only [pickAll, List.filterMap_cons, List.filterMap_nil, List.getElem?_cons_zero, List.getElem?_cons_succ, List.cons_append, List.nil_append, List.drop_succ_cons, List.drop_zero] at hs2
  clear hs1
  refine To.run 5 ?_
  refine To.retv Try.func59 (by kernel_rfl) (v := Value.tuple #[Value.int IntKind.i64 0, Value.bool false]) (by kernel_rfl) ?_
  exact ⟨_, _, rfl, ⟨rfl, rfl⟩, Sat.laneBack (ln f t) (ln_lt h4 h) hX hs2.turn3⟩

theorem NTakeI_some (nb R : Nat) (dcs f t : Int) (B C : Nat → Nat) (X : Nat → List Value) (h4 : dcs ≤ 4) (h : isLane dcs f t) (x : Value) (xs : List Value) (hX : X (ln f t) = x :: xs) : Trip Try.prog 59 [.pointer (some ⟨nb, 0, none⟩), .int .i64 f, .int .i64 t] [cel nb 128 (netCells dcs B), lanes 25 103 R B C X]
    (fun v l => v = .tuple #[x, .bool true] ∧ l = [cel nb 128 (netCells dcs B), lanes 25 103 R B C (putAt X (ln f t) xs)]) := by
  refine Trip.of Try.func59 (by kernel_rfl) fun E w L hs => ?_
  simp only [List.cons_append, List.nil_append] at hs
  have hs := Sat.laneOut (ln f t) (ln_lt h4 h) hs
  rw [hX] at hs
  refine To.run 11 ?_
  refine To.one (One.call 4 [0] [1, 2, 3] (g := 66) (args := [Value.pointer (some { block := nb, off := 0 }), Value.int IntKind.i64 f, Value.int IntKind.i64 t]) (by kernel_rfl) hs (ofI_is (nb) (dcs) (f) (t) (B) (by assumption) (by assumption)) (by decide) rfl ?_)
  rintro _ _ w1 ⟨rfl, rfl⟩ hs1
  simp only [pickAll, List.filterMap_cons, List.filterMap_nil, List.getElem?_cons_zero, List.getElem?_cons_succ, List.cons_append, List.nil_append, List.drop_succ_cons, List.drop_zero] at hs1
  clear hs
  refine To.run 11 ?_
  refine To.one (One.call 4 [1, 2] [0, 3] (g := 17) (args := [Value.pointer (some { block := B (ln f t), off := 0 })]) (by kernel_rfl) hs1 (TakeI_some (B (ln f t)) (C (ln f t)) (R) (x) (xs)) (by decide) rfl ?_)
  rintro _ _ w2 ⟨rfl, rfl⟩ hs2
  simp only [pickAll, List.filterMap_cons, List.filterMap_nil, List.getElem?_cons_zero, List.getElem?_cons_succ, List.cons_append, List.nil_append, List.drop_succ_cons, List.drop_zero] at hs2
  clear hs1
  refine To.run 5 ?_
  refine To.retv Try.func59 (by kernel_rfl) (v := Value.tuple #[x, Value.bool true]) (by kernel_rfl) ?_
  exact ⟨_, _, rfl, ⟨rfl, rfl⟩, Sat.laneIn (ln f t) (ln_lt h4 h) hs2.turn3⟩

theorem NLoseI_no (nb R : Nat) (dcs f t : Int) (B C : Nat → Nat) (X : Nat → List Value) (h : ¬ isLane dcs f t) : Trip Try.prog 62 [.pointer (some ⟨nb, 0, none⟩), .int .i64 f, .int .i64 t] [cel nb 128 (netCells dcs B), lanes 25 103 R B C X]
    (fun v l => v = .bool false ∧ l = [cel nb 128 (netCells dcs B), lanes 25 103 R B C X]) := by
  refine Trip.of Try.func62 (by kernel_rfl) fun E w L hs => ?_
  simp only [List.cons_append, List.nil_append] at hs
  refine To.run 9 ?_
  refine To.one (One.call 2 [0, 1] [] (g := 59) (args := [Value.pointer (some { block := nb, off := 0 }), Value.int IntKind.i64 f, Value.int IntKind.i64 t]) (by kernel_rfl) hs (NTakeI_no (nb) (R) (dcs) (f) (t) (B) (C) (X) (by assumption)) (by decide) rfl ?_)
  rintro _ _ w1 ⟨rfl, rfl⟩ hs1
  simp only [pickAll, List.filterMap_cons, List.filterMap_nil, List.getElem?_cons_zero, List.getElem?_cons_succ, List.cons_append, List.nil_append, List.drop_succ_cons, List.drop_zero] at hs1
  clear hs
  refine To.run 11 ?_
  refine To.retv Try.func62 (by kernel_rfl) (v := Value.bool false) (by kernel_rfl) ?_
  exact ⟨_, _, rfl, ⟨rfl, rfl⟩, hs1⟩

theorem NLoseI_none (nb R : Nat) (dcs f t : Int) (B C : Nat → Nat) (X : Nat → List Value) (h4 : dcs ≤ 4) (h : isLane dcs f t) (hX : X (ln f t) = []) : Trip Try.prog 62 [.pointer (some ⟨nb, 0, none⟩), .int .i64 f, .int .i64 t] [cel nb 128 (netCells dcs B), lanes 25 103 R B C X]
    (fun v l => v = .bool false ∧ l = [cel nb 128 (netCells dcs B), lanes 25 103 R B C X]) := by
  refine Trip.of Try.func62 (by kernel_rfl) fun E w L hs => ?_
  simp only [List.cons_append, List.nil_append] at hs
  refine To.run 9 ?_
  refine To.one (One.call 2 [0, 1] [] (g := 59) (args := [Value.pointer (some { block := nb, off := 0 }), Value.int IntKind.i64 f, Value.int IntKind.i64 t]) (by kernel_rfl) hs (NTakeI_none (nb) (R) (dcs) (f) (t) (B) (C) (X) (by assumption) (by assumption) (by assumption)) (by decide) rfl ?_)
  rintro _ _ w1 ⟨rfl, rfl⟩ hs1
  simp only [pickAll, List.filterMap_cons, List.filterMap_nil, List.getElem?_cons_zero, List.getElem?_cons_succ, List.cons_append, List.nil_append, List.drop_succ_cons, List.drop_zero] at hs1
  clear hs
  refine To.run 11 ?_
  refine To.retv Try.func62 (by kernel_rfl) (v := Value.bool false) (by kernel_rfl) ?_
  exact ⟨_, _, rfl, ⟨rfl, rfl⟩, hs1⟩

theorem NLoseI_some (nb R : Nat) (dcs f t : Int) (B C : Nat → Nat) (X : Nat → List Value) (h4 : dcs ≤ 4) (h : isLane dcs f t) (x : Value) (xs : List Value) (hX : X (ln f t) = x :: xs) : Trip Try.prog 62 [.pointer (some ⟨nb, 0, none⟩), .int .i64 f, .int .i64 t] [cel nb 128 (netCells dcs B), lanes 25 103 R B C X]
    (fun v l => v = .bool true ∧ l = [cel nb 128 (netCells dcs B), lanes 25 103 R B C (putAt X (ln f t) xs)]) := by
  refine Trip.of Try.func62 (by kernel_rfl) fun E w L hs => ?_
  simp only [List.cons_append, List.nil_append] at hs
  refine To.run 9 ?_
  refine To.one (One.call 2 [0, 1] [] (g := 59) (args := [Value.pointer (some { block := nb, off := 0 }), Value.int IntKind.i64 f, Value.int IntKind.i64 t]) (by kernel_rfl) hs (NTakeI_some nb R dcs f t B C X h4 h x xs hX) (by decide) rfl ?_)
  rintro _ _ w1 ⟨rfl, rfl⟩ hs1
  simp only [pickAll, List.filterMap_cons, List.filterMap_nil, List.getElem?_cons_zero, List.getElem?_cons_succ, List.cons_append, List.nil_append, List.drop_succ_cons, List.drop_zero] at hs1
  clear hs
  refine To.run 11 ?_
  refine To.retv Try.func62 (by kernel_rfl) (v := Value.bool true) (by kernel_rfl) ?_
  exact ⟨_, _, rfl, ⟨rfl, rfl⟩, hs1⟩

theorem NTurnI_no (nb R : Nat) (dcs f t : Int) (B C : Nat → Nat) (X : Nat → List Value) (h : ¬ isLane dcs f t) : Trip Try.prog 60 [.pointer (some ⟨nb, 0, none⟩), .int .i64 f, .int .i64 t] [cel nb 128 (netCells dcs B), lanes 25 103 R B C X]
    (fun v l => v = .bool false ∧ l = [cel nb 128 (netCells dcs B), lanes 25 103 R B C X]) := by
  refine Trip.of Try.func60 (by kernel_rfl) fun E w L hs => ?_
  simp only [List.cons_append, List.nil_append] at hs
  refine To.run 9 ?_
  refine To.one (One.call 2 [0, 1] [] (g := 59) (args := [Value.pointer (some { block := nb, off := 0 }), Value.int IntKind.i64 f, Value.int IntKind.i64 t]) (by kernel_rfl) hs (NTakeI_no (nb) (R) (dcs) (f) (t) (B) (C) (X) (by assumption)) (by decide) rfl ?_)
  rintro _ _ w1 ⟨rfl, rfl⟩ hs1
  simp only [pickAll, List.filterMap_cons, List.filterMap_nil, List.getElem?_cons_zero, List.getElem?_cons_succ, List.cons_append, List.nil_append, List.drop_succ_cons, List.drop_zero] at hs1
  clear hs
  refine To.run 18 ?_
  refine To.retv Try.func60 (by kernel_rfl) (v := Value.bool false) (by kernel_rfl) ?_
  exact ⟨_, _, rfl, ⟨rfl, rfl⟩, hs1⟩

theorem NTurnI_none (nb R : Nat) (dcs f t : Int) (B C : Nat → Nat) (X : Nat → List Value) (h4 : dcs ≤ 4) (h : isLane dcs f t) (hX : X (ln f t) = []) : Trip Try.prog 60 [.pointer (some ⟨nb, 0, none⟩), .int .i64 f, .int .i64 t] [cel nb 128 (netCells dcs B), lanes 25 103 R B C X]
    (fun v l => v = .bool false ∧ l = [cel nb 128 (netCells dcs B), lanes 25 103 R B C X]) := by
  refine Trip.of Try.func60 (by kernel_rfl) fun E w L hs => ?_
  simp only [List.cons_append, List.nil_append] at hs
  refine To.run 9 ?_
  refine To.one (One.call 2 [0, 1] [] (g := 59) (args := [Value.pointer (some { block := nb, off := 0 }), Value.int IntKind.i64 f, Value.int IntKind.i64 t]) (by kernel_rfl) hs (NTakeI_none (nb) (R) (dcs) (f) (t) (B) (C) (X) (by assumption) (by assumption) (by assumption)) (by decide) rfl ?_)
  rintro _ _ w1 ⟨rfl, rfl⟩ hs1
  simp only [pickAll, List.filterMap_cons, List.filterMap_nil, List.getElem?_cons_zero, List.getElem?_cons_succ, List.cons_append, List.nil_append, List.drop_succ_cons, List.drop_zero] at hs1
  clear hs
  refine To.run 18 ?_
  refine To.retv Try.func60 (by kernel_rfl) (v := Value.bool false) (by kernel_rfl) ?_
  exact ⟨_, _, rfl, ⟨rfl, rfl⟩, hs1⟩

theorem NTurnI_some (nb R : Nat) (dcs f t : Int) (B C : Nat → Nat) (X : Nat → List Value) (h4 : dcs ≤ 4) (h : isLane dcs f t) (x : Value) (xs : List Value) (hX : X (ln f t) = x :: xs) (hR : xs.length < R) : Trip Try.prog 60 [.pointer (some ⟨nb, 0, none⟩), .int .i64 f, .int .i64 t] [cel nb 128 (netCells dcs B), lanes 25 103 R B C X]
    (fun v l => v = .bool true ∧ l = [cel nb 128 (netCells dcs B), lanes 25 103 R B C (putAt X (ln f t) (xs ++ [x]))]) := by
  refine Trip.of Try.func60 (by kernel_rfl) fun E w L hs => ?_
  have hR2 : (putAt X (ln f t) xs (ln f t)).length < R := by rw [putAt_same]; exact hR
  simp only [List.cons_append, List.nil_append] at hs
  refine To.run 9 ?_
  refine To.one (One.call 2 [0, 1] [] (g := 59) (args := [Value.pointer (some { block := nb, off := 0 }), Value.int IntKind.i64 f, Value.int IntKind.i64 t]) (by kernel_rfl) hs (NTakeI_some nb R dcs f t B C X h4 h x xs hX) (by decide) rfl ?_)
  rintro _ _ w1 ⟨rfl, rfl⟩ hs1
  simp only [pickAll, List.filterMap_cons, List.filterMap_nil, List.getElem?_cons_zero, List.getElem?_cons_succ, List.cons_append, List.nil_append, List.drop_succ_cons, List.drop_zero] at hs1
  clear hs
  refine To.run 14 ?_
  refine To.one (One.call 2 [0, 1] [] (g := 56) (args := [Value.pointer (some { block := nb, off := 0 }), Value.int IntKind.i64 f, Value.int IntKind.i64 t, x]) (by kernel_rfl) hs1 (NSendI_room (nb) (R) (dcs) (f) (t) (B) (C) (putAt X (ln f t) xs) (by assumption) (by assumption) (by assumption) (x)) (by decide) rfl ?_)
  rintro _ _ w2 ⟨rfl, rfl⟩ hs2
  simp only [pickAll, List.filterMap_cons, List.filterMap_nil, List.getElem?_cons_zero, List.getElem?_cons_succ, List.cons_append, List.nil_append, List.drop_succ_cons, List.drop_zero] at hs2
  clear hs1
  refine To.run 3 ?_
  refine To.retv Try.func60 (by kernel_rfl) (v := Value.bool true) (by kernel_rfl) ?_
  rw [putAt_putAt, putAt_same] at hs2
  exact ⟨_, _, rfl, ⟨rfl, rfl⟩, hs2⟩

end Go.Proofs.Ythojpcfaaiefhaa
