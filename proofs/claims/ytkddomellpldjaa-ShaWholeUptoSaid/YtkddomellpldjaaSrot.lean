import Derived.Test.YtkddomellpldjaaProg
import Derived.Test.YtkddomellpldjaaSxStr
set_option linter.unusedSimpArgs false
set_option linter.unusedVariables false
namespace Go.Proofs.Ytkddomellpldjaa
open Go Go.Sx
set_option linter.unusedSimpArgs false
set_option maxHeartbeats 0
set_option maxRecDepth 20000

/-- Turned right. -/
def rr (x : BitVec 32) (n : Nat) : BitVec 32 := (x >>> n) ||| (x <<< (32 - n))

def start8 : List (BitVec 32) := [0x6a09e667, 0xbb67ae85, 0x3c6ef372, 0xa54ff53a, 0x510e527f, 0x9b05688c, 0x1f83d9ab, 0x5be0cd19]
def aggU (l : List (BitVec 32)) : Value := .agg (l.map U).toArray

theorem Start_ok : Trip Try.prog 18 [] [] (fun v l => v = aggU start8 ∧ l = []) := by
  refine Trip.of Try.func18 (by kernel_rfl) fun E w L hs => ?_
  simp only [List.nil_append] at hs
  refine To.run 2 ?_
  refine To.one (One.alloc (t := 26) [Value.int IntKind.u32 0, Value.int IntKind.u32 0, Value.int IntKind.u32 0, Value.int IntKind.u32 0, Value.int IntKind.u32 0, Value.int IntKind.u32 0, Value.int IntKind.u32 0, Value.int IntKind.u32 0] hs (by kernel_rfl) (by kernel_rfl) fun b1 w1 hs1 => ?_)
  clear hs
  refine To.run 4 ?_
  refine To.one (One.store 0 (t := 26) (off := 0) (v := Value.agg #[Value.int IntKind.u32 1779033703, Value.int IntKind.u32 3144134277, Value.int IntKind.u32 1013904242, Value.int IntKind.u32 2773480762, Value.int IntKind.u32 1359893119, Value.int IntKind.u32 2600822924, Value.int IntKind.u32 528734635, Value.int IntKind.u32 1541459225]) (vs' := [Value.int IntKind.u32 1779033703, Value.int IntKind.u32 3144134277, Value.int IntKind.u32 1013904242, Value.int IntKind.u32 2773480762, Value.int IntKind.u32 1359893119, Value.int IntKind.u32 2600822924, Value.int IntKind.u32 528734635, Value.int IntKind.u32 1541459225]) hs1 rfl (by kernel_rfl) (by kernel_rfl) (by kernel_rfl) fun w2 hs2 => ?_)
  simp only [List.set_cons_zero, List.set_cons_succ] at hs2
  clear hs1
  refine To.run 1 ?_
  refine To.retCell 0 0 (t := 26) (off := 0) (v := Value.agg #[Value.int IntKind.u32 1779033703, Value.int IntKind.u32 3144134277, Value.int IntKind.u32 1013904242, Value.int IntKind.u32 2773480762, Value.int IntKind.u32 1359893119, Value.int IntKind.u32 2600822924, Value.int IntKind.u32 528734635, Value.int IntKind.u32 1541459225]) hs2 rfl Try.func18 (by kernel_rfl) (by kernel_rfl) (by kernel_rfl) (by kernel_rfl) ?_
  exact ⟨_, _, rfl, ⟨by kernel_rfl, rfl⟩, hs2.sub (List.sublist_cons_self _ _)⟩
theorem RStart_ok : Trip Try.prog 19 [] [] (fun v l => v = aggU start8 ∧ l = []) := by
  refine Trip.of Try.func19 (by kernel_rfl) fun E w L hs => ?_
  simp only [List.nil_append] at hs
  refine To.run 2 ?_
  refine To.one (One.alloc (t := 26) [Value.int IntKind.u32 0, Value.int IntKind.u32 0, Value.int IntKind.u32 0, Value.int IntKind.u32 0, Value.int IntKind.u32 0, Value.int IntKind.u32 0, Value.int IntKind.u32 0, Value.int IntKind.u32 0] hs (by kernel_rfl) (by kernel_rfl) fun b1 w1 hs1 => ?_)
  clear hs
  refine To.run 4 ?_
  refine To.one (One.store 0 (t := 26) (off := 0) (v := Value.agg #[Value.int IntKind.u32 1779033703, Value.int IntKind.u32 3144134277, Value.int IntKind.u32 1013904242, Value.int IntKind.u32 2773480762, Value.int IntKind.u32 1359893119, Value.int IntKind.u32 2600822924, Value.int IntKind.u32 528734635, Value.int IntKind.u32 1541459225]) (vs' := [Value.int IntKind.u32 1779033703, Value.int IntKind.u32 3144134277, Value.int IntKind.u32 1013904242, Value.int IntKind.u32 2773480762, Value.int IntKind.u32 1359893119, Value.int IntKind.u32 2600822924, Value.int IntKind.u32 528734635, Value.int IntKind.u32 1541459225]) hs1 rfl (by kernel_rfl) (by kernel_rfl) (by kernel_rfl) fun w2 hs2 => ?_)
  simp only [List.set_cons_zero, List.set_cons_succ] at hs2
  clear hs1
  refine To.run 1 ?_
  refine To.retCell 0 0 (t := 26) (off := 0) (v := Value.agg #[Value.int IntKind.u32 1779033703, Value.int IntKind.u32 3144134277, Value.int IntKind.u32 1013904242, Value.int IntKind.u32 2773480762, Value.int IntKind.u32 1359893119, Value.int IntKind.u32 2600822924, Value.int IntKind.u32 528734635, Value.int IntKind.u32 1541459225]) hs2 rfl Try.func19 (by kernel_rfl) (by kernel_rfl) (by kernel_rfl) (by kernel_rfl) ?_
  exact ⟨_, _, rfl, ⟨by kernel_rfl, rfl⟩, hs2.sub (List.sublist_cons_self _ _)⟩

theorem rot_2 (x : BitVec 32) : Trip Try.prog 27 [U x, .int .i64 (-2)] [] (fun v l => v = U (rr x 2) ∧ l = []) := by
  refine Trip.of Try.func27 (by kernel_rfl) fun E w L hs => ?_
  simp only [List.cons_append, List.nil_append] at hs
  refine To.run 16 ?_
  refine To.known 11 _ (by kernel_rfl) (U_shl (x) (30) (30) rfl) ?_
  refine To.run 4 ?_
  refine To.known 15 _ (by kernel_rfl) (U_shr (x) (2) (2) rfl) ?_
  refine To.run 1 ?_
  refine To.known 16 _ (by kernel_rfl) (U_or (x <<< 30) (x >>> 2)) ?_
  refine To.run 2 ?_
  refine To.retv Try.func27 (by kernel_rfl) (v := Value.int IntKind.u32 (↑(x <<< 30 ||| x >>> 2).toNat : Int)) (by kernel_rfl) ?_
  exact ⟨_, _, rfl, ⟨by unfold rr; rw [BitVec.or_comm], rfl⟩, hs⟩
theorem right_2 (x : BitVec 32) : Trip Try.prog 22 [U x, .int .i64 2] [] (fun v l => v = U (rr x 2) ∧ l = []) := by
  refine Trip.of Try.func22 (by kernel_rfl) fun E w L hs => ?_
  simp only [List.cons_append, List.nil_append] at hs
  refine To.run 9 ?_
  refine To.one (One.call 0 [] [] (g := 27) (args := [Value.int IntKind.u32 (↑x.toNat : Int), Value.int IntKind.i64 (-2)]) (by kernel_rfl) hs (rot_2 (x)) (by decide) rfl ?_)
  rintro _ _ w1 ⟨rfl, rfl⟩ hs1
  simp only [pickAll, List.filterMap_cons, List.filterMap_nil, List.getElem?_cons_zero, List.getElem?_cons_succ, List.cons_append, List.nil_append, List.drop_succ_cons, List.drop_zero] at hs1
  clear hs
  refine To.run 2 ?_
  refine To.retv Try.func22 (by kernel_rfl) (v := Value.int IntKind.u32 (↑(rr x 2).toNat : Int)) (by kernel_rfl) ?_
  exact ⟨_, _, rfl, ⟨rfl, rfl⟩, hs1⟩
theorem turn_2 (x : BitVec 32) : Trip Try.prog 26 [U x, .int .i64 2] [] (fun v l => v = U (rr x 2) ∧ l = []) := by
  refine Trip.of Try.func26 (by kernel_rfl) fun E w L hs => ?_
  simp only [List.cons_append, List.nil_append] at hs
  refine To.run 5 ?_
  refine To.draw [] [] 9 hs (by kernel_rfl) (by kernel_rfl) (by kernel_rfl) fun w1 hs1 => ?_
  clear hs
  have hb1 := Sat.holds hs1 [] rfl
  refine Reg.pures [0, 1, 2] (fuel' := 6) (.inl hb1) rfl (by kernel_rfl) ?_
  refine Reg.known 7 _ (by kernel_rfl) (U_shr (x) (2) (2) rfl) ?_
  refine Reg.pures [3, 4, 5, 6] (fuel' := 2) (.inl hb1) rfl (by kernel_rfl) ?_
  refine Reg.known 11 _ (by kernel_rfl) (U_shl (x) (30) (30) rfl) ?_
  refine Reg.pures [7] (fuel' := 1) (.inl hb1) rfl (by kernel_rfl) ?_
  refine Reg.known 12 _ (by kernel_rfl) (U_or (x >>> 2) (x <<< 30)) ?_
  refine Reg.pures [8] (fuel' := 0) (.inl hb1) rfl (by kernel_rfl) ?_
  refine Reg.done (by kernel_rfl) ?_
  refine To.retv Try.func26 (by kernel_rfl) (v := Value.int IntKind.u32 (↑(x >>> 2 ||| x <<< 30).toNat : Int)) (by kernel_rfl) ?_
  exact ⟨_, _, rfl, ⟨rfl, rfl⟩, hs1⟩

theorem rot_6 (x : BitVec 32) : Trip Try.prog 27 [U x, .int .i64 (-6)] [] (fun v l => v = U (rr x 6) ∧ l = []) := by
  refine Trip.of Try.func27 (by kernel_rfl) fun E w L hs => ?_
  simp only [List.cons_append, List.nil_append] at hs
  refine To.run 16 ?_
  refine To.known 11 _ (by kernel_rfl) (U_shl (x) (26) (26) rfl) ?_
  refine To.run 4 ?_
  refine To.known 15 _ (by kernel_rfl) (U_shr (x) (6) (6) rfl) ?_
  refine To.run 1 ?_
  refine To.known 16 _ (by kernel_rfl) (U_or (x <<< 26) (x >>> 6)) ?_
  refine To.run 2 ?_
  refine To.retv Try.func27 (by kernel_rfl) (v := Value.int IntKind.u32 (↑(x <<< 26 ||| x >>> 6).toNat : Int)) (by kernel_rfl) ?_
  exact ⟨_, _, rfl, ⟨by unfold rr; rw [BitVec.or_comm], rfl⟩, hs⟩
theorem right_6 (x : BitVec 32) : Trip Try.prog 22 [U x, .int .i64 6] [] (fun v l => v = U (rr x 6) ∧ l = []) := by
  refine Trip.of Try.func22 (by kernel_rfl) fun E w L hs => ?_
  simp only [List.cons_append, List.nil_append] at hs
  refine To.run 9 ?_
  refine To.one (One.call 0 [] [] (g := 27) (args := [Value.int IntKind.u32 (↑x.toNat : Int), Value.int IntKind.i64 (-6)]) (by kernel_rfl) hs (rot_6 (x)) (by decide) rfl ?_)
  rintro _ _ w1 ⟨rfl, rfl⟩ hs1
  simp only [pickAll, List.filterMap_cons, List.filterMap_nil, List.getElem?_cons_zero, List.getElem?_cons_succ, List.cons_append, List.nil_append, List.drop_succ_cons, List.drop_zero] at hs1
  clear hs
  refine To.run 2 ?_
  refine To.retv Try.func22 (by kernel_rfl) (v := Value.int IntKind.u32 (↑(rr x 6).toNat : Int)) (by kernel_rfl) ?_
  exact ⟨_, _, rfl, ⟨rfl, rfl⟩, hs1⟩
theorem turn_6 (x : BitVec 32) : Trip Try.prog 26 [U x, .int .i64 6] [] (fun v l => v = U (rr x 6) ∧ l = []) := by
  refine Trip.of Try.func26 (by kernel_rfl) fun E w L hs => ?_
  simp only [List.cons_append, List.nil_append] at hs
  refine To.run 5 ?_
  refine To.draw [] [] 9 hs (by kernel_rfl) (by kernel_rfl) (by kernel_rfl) fun w1 hs1 => ?_
  clear hs
  have hb1 := Sat.holds hs1 [] rfl
  refine Reg.pures [0, 1, 2] (fuel' := 6) (.inl hb1) rfl (by kernel_rfl) ?_
  refine Reg.known 7 _ (by kernel_rfl) (U_shr (x) (6) (6) rfl) ?_
  refine Reg.pures [3, 4, 5, 6] (fuel' := 2) (.inl hb1) rfl (by kernel_rfl) ?_
  refine Reg.known 11 _ (by kernel_rfl) (U_shl (x) (26) (26) rfl) ?_
  refine Reg.pures [7] (fuel' := 1) (.inl hb1) rfl (by kernel_rfl) ?_
  refine Reg.known 12 _ (by kernel_rfl) (U_or (x >>> 6) (x <<< 26)) ?_
  refine Reg.pures [8] (fuel' := 0) (.inl hb1) rfl (by kernel_rfl) ?_
  refine Reg.done (by kernel_rfl) ?_
  refine To.retv Try.func26 (by kernel_rfl) (v := Value.int IntKind.u32 (↑(x >>> 6 ||| x <<< 26).toNat : Int)) (by kernel_rfl) ?_
  exact ⟨_, _, rfl, ⟨rfl, rfl⟩, hs1⟩

theorem rot_7 (x : BitVec 32) : Trip Try.prog 27 [U x, .int .i64 (-7)] [] (fun v l => v = U (rr x 7) ∧ l = []) := by
  refine Trip.of Try.func27 (by kernel_rfl) fun E w L hs => ?_
  simp only [List.cons_append, List.nil_append] at hs
  refine To.run 16 ?_
  refine To.known 11 _ (by kernel_rfl) (U_shl (x) (25) (25) rfl) ?_
  refine To.run 4 ?_
  refine To.known 15 _ (by kernel_rfl) (U_shr (x) (7) (7) rfl) ?_
  refine To.run 1 ?_
  refine To.known 16 _ (by kernel_rfl) (U_or (x <<< 25) (x >>> 7)) ?_
  refine To.run 2 ?_
  refine To.retv Try.func27 (by kernel_rfl) (v := Value.int IntKind.u32 (↑(x <<< 25 ||| x >>> 7).toNat : Int)) (by kernel_rfl) ?_
  exact ⟨_, _, rfl, ⟨by unfold rr; rw [BitVec.or_comm], rfl⟩, hs⟩
theorem right_7 (x : BitVec 32) : Trip Try.prog 22 [U x, .int .i64 7] [] (fun v l => v = U (rr x 7) ∧ l = []) := by
  refine Trip.of Try.func22 (by kernel_rfl) fun E w L hs => ?_
  simp only [List.cons_append, List.nil_append] at hs
  refine To.run 9 ?_
  refine To.one (One.call 0 [] [] (g := 27) (args := [Value.int IntKind.u32 (↑x.toNat : Int), Value.int IntKind.i64 (-7)]) (by kernel_rfl) hs (rot_7 (x)) (by decide) rfl ?_)
  rintro _ _ w1 ⟨rfl, rfl⟩ hs1
  simp only [pickAll, List.filterMap_cons, List.filterMap_nil, List.getElem?_cons_zero, List.getElem?_cons_succ, List.cons_append, List.nil_append, List.drop_succ_cons, List.drop_zero] at hs1
  clear hs
  refine To.run 2 ?_
  refine To.retv Try.func22 (by kernel_rfl) (v := Value.int IntKind.u32 (↑(rr x 7).toNat : Int)) (by kernel_rfl) ?_
  exact ⟨_, _, rfl, ⟨rfl, rfl⟩, hs1⟩
theorem turn_7 (x : BitVec 32) : Trip Try.prog 26 [U x, .int .i64 7] [] (fun v l => v = U (rr x 7) ∧ l = []) := by
  refine Trip.of Try.func26 (by kernel_rfl) fun E w L hs => ?_
  simp only [List.cons_append, List.nil_append] at hs
  refine To.run 5 ?_
  refine To.draw [] [] 9 hs (by kernel_rfl) (by kernel_rfl) (by kernel_rfl) fun w1 hs1 => ?_
  clear hs
  have hb1 := Sat.holds hs1 [] rfl
  refine Reg.pures [0, 1, 2] (fuel' := 6) (.inl hb1) rfl (by kernel_rfl) ?_
  refine Reg.known 7 _ (by kernel_rfl) (U_shr (x) (7) (7) rfl) ?_
  refine Reg.pures [3, 4, 5, 6] (fuel' := 2) (.inl hb1) rfl (by kernel_rfl) ?_
  refine Reg.known 11 _ (by kernel_rfl) (U_shl (x) (25) (25) rfl) ?_
  refine Reg.pures [7] (fuel' := 1) (.inl hb1) rfl (by kernel_rfl) ?_
  refine Reg.known 12 _ (by kernel_rfl) (U_or (x >>> 7) (x <<< 25)) ?_
  refine Reg.pures [8] (fuel' := 0) (.inl hb1) rfl (by kernel_rfl) ?_
  refine Reg.done (by kernel_rfl) ?_
  refine To.retv Try.func26 (by kernel_rfl) (v := Value.int IntKind.u32 (↑(x >>> 7 ||| x <<< 25).toNat : Int)) (by kernel_rfl) ?_
  exact ⟨_, _, rfl, ⟨rfl, rfl⟩, hs1⟩

theorem rot_11 (x : BitVec 32) : Trip Try.prog 27 [U x, .int .i64 (-11)] [] (fun v l => v = U (rr x 11) ∧ l = []) := by
  refine Trip.of Try.func27 (by kernel_rfl) fun E w L hs => ?_
  simp only [List.cons_append, List.nil_append] at hs
  refine To.run 16 ?_
  refine To.known 11 _ (by kernel_rfl) (U_shl (x) (21) (21) rfl) ?_
  refine To.run 4 ?_
  refine To.known 15 _ (by kernel_rfl) (U_shr (x) (11) (11) rfl) ?_
  refine To.run 1 ?_
  refine To.known 16 _ (by kernel_rfl) (U_or (x <<< 21) (x >>> 11)) ?_
  refine To.run 2 ?_
  refine To.retv Try.func27 (by kernel_rfl) (v := Value.int IntKind.u32 (↑(x <<< 21 ||| x >>> 11).toNat : Int)) (by kernel_rfl) ?_
  exact ⟨_, _, rfl, ⟨by unfold rr; rw [BitVec.or_comm], rfl⟩, hs⟩
theorem right_11 (x : BitVec 32) : Trip Try.prog 22 [U x, .int .i64 11] [] (fun v l => v = U (rr x 11) ∧ l = []) := by
  refine Trip.of Try.func22 (by kernel_rfl) fun E w L hs => ?_
  simp only [List.cons_append, List.nil_append] at hs
  refine To.run 9 ?_
  refine To.one (One.call 0 [] [] (g := 27) (args := [Value.int IntKind.u32 (↑x.toNat : Int), Value.int IntKind.i64 (-11)]) (by kernel_rfl) hs (rot_11 (x)) (by decide) rfl ?_)
  rintro _ _ w1 ⟨rfl, rfl⟩ hs1
  simp only [pickAll, List.filterMap_cons, List.filterMap_nil, List.getElem?_cons_zero, List.getElem?_cons_succ, List.cons_append, List.nil_append, List.drop_succ_cons, List.drop_zero] at hs1
  clear hs
  refine To.run 2 ?_
  refine To.retv Try.func22 (by kernel_rfl) (v := Value.int IntKind.u32 (↑(rr x 11).toNat : Int)) (by kernel_rfl) ?_
  exact ⟨_, _, rfl, ⟨rfl, rfl⟩, hs1⟩
theorem turn_11 (x : BitVec 32) : Trip Try.prog 26 [U x, .int .i64 11] [] (fun v l => v = U (rr x 11) ∧ l = []) := by
  refine Trip.of Try.func26 (by kernel_rfl) fun E w L hs => ?_
  simp only [List.cons_append, List.nil_append] at hs
  refine To.run 5 ?_
  refine To.draw [] [] 9 hs (by kernel_rfl) (by kernel_rfl) (by kernel_rfl) fun w1 hs1 => ?_
  clear hs
  have hb1 := Sat.holds hs1 [] rfl
  refine Reg.pures [0, 1, 2] (fuel' := 6) (.inl hb1) rfl (by kernel_rfl) ?_
  refine Reg.known 7 _ (by kernel_rfl) (U_shr (x) (11) (11) rfl) ?_
  refine Reg.pures [3, 4, 5, 6] (fuel' := 2) (.inl hb1) rfl (by kernel_rfl) ?_
  refine Reg.known 11 _ (by kernel_rfl) (U_shl (x) (21) (21) rfl) ?_
  refine Reg.pures [7] (fuel' := 1) (.inl hb1) rfl (by kernel_rfl) ?_
  refine Reg.known 12 _ (by kernel_rfl) (U_or (x >>> 11) (x <<< 21)) ?_
  refine Reg.pures [8] (fuel' := 0) (.inl hb1) rfl (by kernel_rfl) ?_
  refine Reg.done (by kernel_rfl) ?_
  refine To.retv Try.func26 (by kernel_rfl) (v := Value.int IntKind.u32 (↑(x >>> 11 ||| x <<< 21).toNat : Int)) (by kernel_rfl) ?_
  exact ⟨_, _, rfl, ⟨rfl, rfl⟩, hs1⟩

theorem rot_13 (x : BitVec 32) : Trip Try.prog 27 [U x, .int .i64 (-13)] [] (fun v l => v = U (rr x 13) ∧ l = []) := by
  refine Trip.of Try.func27 (by kernel_rfl) fun E w L hs => ?_
  simp only [List.cons_append, List.nil_append] at hs
  refine To.run 16 ?_
  refine To.known 11 _ (by kernel_rfl) (U_shl (x) (19) (19) rfl) ?_
  refine To.run 4 ?_
  refine To.known 15 _ (by kernel_rfl) (U_shr (x) (13) (13) rfl) ?_
  refine To.run 1 ?_
  refine To.known 16 _ (by kernel_rfl) (U_or (x <<< 19) (x >>> 13)) ?_
  refine To.run 2 ?_
  refine To.retv Try.func27 (by kernel_rfl) (v := Value.int IntKind.u32 (↑(x <<< 19 ||| x >>> 13).toNat : Int)) (by kernel_rfl) ?_
  exact ⟨_, _, rfl, ⟨by unfold rr; rw [BitVec.or_comm], rfl⟩, hs⟩
theorem right_13 (x : BitVec 32) : Trip Try.prog 22 [U x, .int .i64 13] [] (fun v l => v = U (rr x 13) ∧ l = []) := by
  refine Trip.of Try.func22 (by kernel_rfl) fun E w L hs => ?_
  simp only [List.cons_append, List.nil_append] at hs
  refine To.run 9 ?_
  refine To.one (One.call 0 [] [] (g := 27) (args := [Value.int IntKind.u32 (↑x.toNat : Int), Value.int IntKind.i64 (-13)]) (by kernel_rfl) hs (rot_13 (x)) (by decide) rfl ?_)
  rintro _ _ w1 ⟨rfl, rfl⟩ hs1
  simp only [pickAll, List.filterMap_cons, List.filterMap_nil, List.getElem?_cons_zero, List.getElem?_cons_succ, List.cons_append, List.nil_append, List.drop_succ_cons, List.drop_zero] at hs1
  clear hs
  refine To.run 2 ?_
  refine To.retv Try.func22 (by kernel_rfl) (v := Value.int IntKind.u32 (↑(rr x 13).toNat : Int)) (by kernel_rfl) ?_
  exact ⟨_, _, rfl, ⟨rfl, rfl⟩, hs1⟩
theorem turn_13 (x : BitVec 32) : Trip Try.prog 26 [U x, .int .i64 13] [] (fun v l => v = U (rr x 13) ∧ l = []) := by
  refine Trip.of Try.func26 (by kernel_rfl) fun E w L hs => ?_
  simp only [List.cons_append, List.nil_append] at hs
  refine To.run 5 ?_
  refine To.draw [] [] 9 hs (by kernel_rfl) (by kernel_rfl) (by kernel_rfl) fun w1 hs1 => ?_
  clear hs
  have hb1 := Sat.holds hs1 [] rfl
  refine Reg.pures [0, 1, 2] (fuel' := 6) (.inl hb1) rfl (by kernel_rfl) ?_
  refine Reg.known 7 _ (by kernel_rfl) (U_shr (x) (13) (13) rfl) ?_
  refine Reg.pures [3, 4, 5, 6] (fuel' := 2) (.inl hb1) rfl (by kernel_rfl) ?_
  refine Reg.known 11 _ (by kernel_rfl) (U_shl (x) (19) (19) rfl) ?_
  refine Reg.pures [7] (fuel' := 1) (.inl hb1) rfl (by kernel_rfl) ?_
  refine Reg.known 12 _ (by kernel_rfl) (U_or (x >>> 13) (x <<< 19)) ?_
  refine Reg.pures [8] (fuel' := 0) (.inl hb1) rfl (by kernel_rfl) ?_
  refine Reg.done (by kernel_rfl) ?_
  refine To.retv Try.func26 (by kernel_rfl) (v := Value.int IntKind.u32 (↑(x >>> 13 ||| x <<< 19).toNat : Int)) (by kernel_rfl) ?_
  exact ⟨_, _, rfl, ⟨rfl, rfl⟩, hs1⟩

theorem rot_17 (x : BitVec 32) : Trip Try.prog 27 [U x, .int .i64 (-17)] [] (fun v l => v = U (rr x 17) ∧ l = []) := by
  refine Trip.of Try.func27 (by kernel_rfl) fun E w L hs => ?_
  simp only [List.cons_append, List.nil_append] at hs
  refine To.run 16 ?_
  refine To.known 11 _ (by kernel_rfl) (U_shl (x) (15) (15) rfl) ?_
  refine To.run 4 ?_
  refine To.known 15 _ (by kernel_rfl) (U_shr (x) (17) (17) rfl) ?_
  refine To.run 1 ?_
  refine To.known 16 _ (by kernel_rfl) (U_or (x <<< 15) (x >>> 17)) ?_
  refine To.run 2 ?_
  refine To.retv Try.func27 (by kernel_rfl) (v := Value.int IntKind.u32 (↑(x <<< 15 ||| x >>> 17).toNat : Int)) (by kernel_rfl) ?_
  exact ⟨_, _, rfl, ⟨by unfold rr; rw [BitVec.or_comm], rfl⟩, hs⟩
theorem right_17 (x : BitVec 32) : Trip Try.prog 22 [U x, .int .i64 17] [] (fun v l => v = U (rr x 17) ∧ l = []) := by
  refine Trip.of Try.func22 (by kernel_rfl) fun E w L hs => ?_
  simp only [List.cons_append, List.nil_append] at hs
  refine To.run 9 ?_
  refine To.one (One.call 0 [] [] (g := 27) (args := [Value.int IntKind.u32 (↑x.toNat : Int), Value.int IntKind.i64 (-17)]) (by kernel_rfl) hs (rot_17 (x)) (by decide) rfl ?_)
  rintro _ _ w1 ⟨rfl, rfl⟩ hs1
  simp only [pickAll, List.filterMap_cons, List.filterMap_nil, List.getElem?_cons_zero, List.getElem?_cons_succ, List.cons_append, List.nil_append, List.drop_succ_cons, List.drop_zero] at hs1
  clear hs
  refine To.run 2 ?_
  refine To.retv Try.func22 (by kernel_rfl) (v := Value.int IntKind.u32 (↑(rr x 17).toNat : Int)) (by kernel_rfl) ?_
  exact ⟨_, _, rfl, ⟨rfl, rfl⟩, hs1⟩
theorem turn_17 (x : BitVec 32) : Trip Try.prog 26 [U x, .int .i64 17] [] (fun v l => v = U (rr x 17) ∧ l = []) := by
  refine Trip.of Try.func26 (by kernel_rfl) fun E w L hs => ?_
  simp only [List.cons_append, List.nil_append] at hs
  refine To.run 5 ?_
  refine To.draw [] [] 9 hs (by kernel_rfl) (by kernel_rfl) (by kernel_rfl) fun w1 hs1 => ?_
  clear hs
  have hb1 := Sat.holds hs1 [] rfl
  refine Reg.pures [0, 1, 2] (fuel' := 6) (.inl hb1) rfl (by kernel_rfl) ?_
  refine Reg.known 7 _ (by kernel_rfl) (U_shr (x) (17) (17) rfl) ?_
  refine Reg.pures [3, 4, 5, 6] (fuel' := 2) (.inl hb1) rfl (by kernel_rfl) ?_
  refine Reg.known 11 _ (by kernel_rfl) (U_shl (x) (15) (15) rfl) ?_
  refine Reg.pures [7] (fuel' := 1) (.inl hb1) rfl (by kernel_rfl) ?_
  refine Reg.known 12 _ (by kernel_rfl) (U_or (x >>> 17) (x <<< 15)) ?_
  refine Reg.pures [8] (fuel' := 0) (.inl hb1) rfl (by kernel_rfl) ?_
  refine Reg.done (by kernel_rfl) ?_
  refine To.retv Try.func26 (by kernel_rfl) (v := Value.int IntKind.u32 (↑(x >>> 17 ||| x <<< 15).toNat : Int)) (by kernel_rfl) ?_
  exact ⟨_, _, rfl, ⟨rfl, rfl⟩, hs1⟩

theorem rot_18 (x : BitVec 32) : Trip Try.prog 27 [U x, .int .i64 (-18)] [] (fun v l => v = U (rr x 18) ∧ l = []) := by
  refine Trip.of Try.func27 (by kernel_rfl) fun E w L hs => ?_
  simp only [List.cons_append, List.nil_append] at hs
  refine To.run 16 ?_
  refine To.known 11 _ (by kernel_rfl) (U_shl (x) (14) (14) rfl) ?_
  refine To.run 4 ?_
  refine To.known 15 _ (by kernel_rfl) (U_shr (x) (18) (18) rfl) ?_
  refine To.run 1 ?_
  refine To.known 16 _ (by kernel_rfl) (U_or (x <<< 14) (x >>> 18)) ?_
  refine To.run 2 ?_
  refine To.retv Try.func27 (by kernel_rfl) (v := Value.int IntKind.u32 (↑(x <<< 14 ||| x >>> 18).toNat : Int)) (by kernel_rfl) ?_
  exact ⟨_, _, rfl, ⟨by unfold rr; rw [BitVec.or_comm], rfl⟩, hs⟩
theorem right_18 (x : BitVec 32) : Trip Try.prog 22 [U x, .int .i64 18] [] (fun v l => v = U (rr x 18) ∧ l = []) := by
  refine Trip.of Try.func22 (by kernel_rfl) fun E w L hs => ?_
  simp only [List.cons_append, List.nil_append] at hs
  refine To.run 9 ?_
  refine To.one (One.call 0 [] [] (g := 27) (args := [Value.int IntKind.u32 (↑x.toNat : Int), Value.int IntKind.i64 (-18)]) (by kernel_rfl) hs (rot_18 (x)) (by decide) rfl ?_)
  rintro _ _ w1 ⟨rfl, rfl⟩ hs1
  simp only [pickAll, List.filterMap_cons, List.filterMap_nil, List.getElem?_cons_zero, List.getElem?_cons_succ, List.cons_append, List.nil_append, List.drop_succ_cons, List.drop_zero] at hs1
  clear hs
  refine To.run 2 ?_
  refine To.retv Try.func22 (by kernel_rfl) (v := Value.int IntKind.u32 (↑(rr x 18).toNat : Int)) (by kernel_rfl) ?_
  exact ⟨_, _, rfl, ⟨rfl, rfl⟩, hs1⟩
theorem turn_18 (x : BitVec 32) : Trip Try.prog 26 [U x, .int .i64 18] [] (fun v l => v = U (rr x 18) ∧ l = []) := by
  refine Trip.of Try.func26 (by kernel_rfl) fun E w L hs => ?_
  simp only [List.cons_append, List.nil_append] at hs
  refine To.run 5 ?_
  refine To.draw [] [] 9 hs (by kernel_rfl) (by kernel_rfl) (by kernel_rfl) fun w1 hs1 => ?_
  clear hs
  have hb1 := Sat.holds hs1 [] rfl
  refine Reg.pures [0, 1, 2] (fuel' := 6) (.inl hb1) rfl (by kernel_rfl) ?_
  refine Reg.known 7 _ (by kernel_rfl) (U_shr (x) (18) (18) rfl) ?_
  refine Reg.pures [3, 4, 5, 6] (fuel' := 2) (.inl hb1) rfl (by kernel_rfl) ?_
  refine Reg.known 11 _ (by kernel_rfl) (U_shl (x) (14) (14) rfl) ?_
  refine Reg.pures [7] (fuel' := 1) (.inl hb1) rfl (by kernel_rfl) ?_
  refine Reg.known 12 _ (by kernel_rfl) (U_or (x >>> 18) (x <<< 14)) ?_
  refine Reg.pures [8] (fuel' := 0) (.inl hb1) rfl (by kernel_rfl) ?_
  refine Reg.done (by kernel_rfl) ?_
  refine To.retv Try.func26 (by kernel_rfl) (v := Value.int IntKind.u32 (↑(x >>> 18 ||| x <<< 14).toNat : Int)) (by kernel_rfl) ?_
  exact ⟨_, _, rfl, ⟨rfl, rfl⟩, hs1⟩

theorem rot_19 (x : BitVec 32) : Trip Try.prog 27 [U x, .int .i64 (-19)] [] (fun v l => v = U (rr x 19) ∧ l = []) := by
  refine Trip.of Try.func27 (by kernel_rfl) fun E w L hs => ?_
  simp only [List.cons_append, List.nil_append] at hs
  refine To.run 16 ?_
  refine To.known 11 _ (by kernel_rfl) (U_shl (x) (13) (13) rfl) ?_
  refine To.run 4 ?_
  refine To.known 15 _ (by kernel_rfl) (U_shr (x) (19) (19) rfl) ?_
  refine To.run 1 ?_
  refine To.known 16 _ (by kernel_rfl) (U_or (x <<< 13) (x >>> 19)) ?_
  refine To.run 2 ?_
  refine To.retv Try.func27 (by kernel_rfl) (v := Value.int IntKind.u32 (↑(x <<< 13 ||| x >>> 19).toNat : Int)) (by kernel_rfl) ?_
  exact ⟨_, _, rfl, ⟨by unfold rr; rw [BitVec.or_comm], rfl⟩, hs⟩
theorem right_19 (x : BitVec 32) : Trip Try.prog 22 [U x, .int .i64 19] [] (fun v l => v = U (rr x 19) ∧ l = []) := by
  refine Trip.of Try.func22 (by kernel_rfl) fun E w L hs => ?_
  simp only [List.cons_append, List.nil_append] at hs
  refine To.run 9 ?_
  refine To.one (One.call 0 [] [] (g := 27) (args := [Value.int IntKind.u32 (↑x.toNat : Int), Value.int IntKind.i64 (-19)]) (by kernel_rfl) hs (rot_19 (x)) (by decide) rfl ?_)
  rintro _ _ w1 ⟨rfl, rfl⟩ hs1
  simp only [pickAll, List.filterMap_cons, List.filterMap_nil, List.getElem?_cons_zero, List.getElem?_cons_succ, List.cons_append, List.nil_append, List.drop_succ_cons, List.drop_zero] at hs1
  clear hs
  refine To.run 2 ?_
  refine To.retv Try.func22 (by kernel_rfl) (v := Value.int IntKind.u32 (↑(rr x 19).toNat : Int)) (by kernel_rfl) ?_
  exact ⟨_, _, rfl, ⟨rfl, rfl⟩, hs1⟩
theorem turn_19 (x : BitVec 32) : Trip Try.prog 26 [U x, .int .i64 19] [] (fun v l => v = U (rr x 19) ∧ l = []) := by
  refine Trip.of Try.func26 (by kernel_rfl) fun E w L hs => ?_
  simp only [List.cons_append, List.nil_append] at hs
  refine To.run 5 ?_
  refine To.draw [] [] 9 hs (by kernel_rfl) (by kernel_rfl) (by kernel_rfl) fun w1 hs1 => ?_
  clear hs
  have hb1 := Sat.holds hs1 [] rfl
  refine Reg.pures [0, 1, 2] (fuel' := 6) (.inl hb1) rfl (by kernel_rfl) ?_
  refine Reg.known 7 _ (by kernel_rfl) (U_shr (x) (19) (19) rfl) ?_
  refine Reg.pures [3, 4, 5, 6] (fuel' := 2) (.inl hb1) rfl (by kernel_rfl) ?_
  refine Reg.known 11 _ (by kernel_rfl) (U_shl (x) (13) (13) rfl) ?_
  refine Reg.pures [7] (fuel' := 1) (.inl hb1) rfl (by kernel_rfl) ?_
  refine Reg.known 12 _ (by kernel_rfl) (U_or (x >>> 19) (x <<< 13)) ?_
  refine Reg.pures [8] (fuel' := 0) (.inl hb1) rfl (by kernel_rfl) ?_
  refine Reg.done (by kernel_rfl) ?_
  refine To.retv Try.func26 (by kernel_rfl) (v := Value.int IntKind.u32 (↑(x >>> 19 ||| x <<< 13).toNat : Int)) (by kernel_rfl) ?_
  exact ⟨_, _, rfl, ⟨rfl, rfl⟩, hs1⟩

theorem rot_22 (x : BitVec 32) : Trip Try.prog 27 [U x, .int .i64 (-22)] [] (fun v l => v = U (rr x 22) ∧ l = []) := by
  refine Trip.of Try.func27 (by kernel_rfl) fun E w L hs => ?_
  simp only [List.cons_append, List.nil_append] at hs
  refine To.run 16 ?_
  refine To.known 11 _ (by kernel_rfl) (U_shl (x) (10) (10) rfl) ?_
  refine To.run 4 ?_
  refine To.known 15 _ (by kernel_rfl) (U_shr (x) (22) (22) rfl) ?_
  refine To.run 1 ?_
  refine To.known 16 _ (by kernel_rfl) (U_or (x <<< 10) (x >>> 22)) ?_
  refine To.run 2 ?_
  refine To.retv Try.func27 (by kernel_rfl) (v := Value.int IntKind.u32 (↑(x <<< 10 ||| x >>> 22).toNat : Int)) (by kernel_rfl) ?_
  exact ⟨_, _, rfl, ⟨by unfold rr; rw [BitVec.or_comm], rfl⟩, hs⟩
theorem right_22 (x : BitVec 32) : Trip Try.prog 22 [U x, .int .i64 22] [] (fun v l => v = U (rr x 22) ∧ l = []) := by
  refine Trip.of Try.func22 (by kernel_rfl) fun E w L hs => ?_
  simp only [List.cons_append, List.nil_append] at hs
  refine To.run 9 ?_
  refine To.one (One.call 0 [] [] (g := 27) (args := [Value.int IntKind.u32 (↑x.toNat : Int), Value.int IntKind.i64 (-22)]) (by kernel_rfl) hs (rot_22 (x)) (by decide) rfl ?_)
  rintro _ _ w1 ⟨rfl, rfl⟩ hs1
  simp only [pickAll, List.filterMap_cons, List.filterMap_nil, List.getElem?_cons_zero, List.getElem?_cons_succ, List.cons_append, List.nil_append, List.drop_succ_cons, List.drop_zero] at hs1
  clear hs
  refine To.run 2 ?_
  refine To.retv Try.func22 (by kernel_rfl) (v := Value.int IntKind.u32 (↑(rr x 22).toNat : Int)) (by kernel_rfl) ?_
  exact ⟨_, _, rfl, ⟨rfl, rfl⟩, hs1⟩
theorem turn_22 (x : BitVec 32) : Trip Try.prog 26 [U x, .int .i64 22] [] (fun v l => v = U (rr x 22) ∧ l = []) := by
  refine Trip.of Try.func26 (by kernel_rfl) fun E w L hs => ?_
  simp only [List.cons_append, List.nil_append] at hs
  refine To.run 5 ?_
  refine To.draw [] [] 9 hs (by kernel_rfl) (by kernel_rfl) (by kernel_rfl) fun w1 hs1 => ?_
  clear hs
  have hb1 := Sat.holds hs1 [] rfl
  refine Reg.pures [0, 1, 2] (fuel' := 6) (.inl hb1) rfl (by kernel_rfl) ?_
  refine Reg.known 7 _ (by kernel_rfl) (U_shr (x) (22) (22) rfl) ?_
  refine Reg.pures [3, 4, 5, 6] (fuel' := 2) (.inl hb1) rfl (by kernel_rfl) ?_
  refine Reg.known 11 _ (by kernel_rfl) (U_shl (x) (10) (10) rfl) ?_
  refine Reg.pures [7] (fuel' := 1) (.inl hb1) rfl (by kernel_rfl) ?_
  refine Reg.known 12 _ (by kernel_rfl) (U_or (x >>> 22) (x <<< 10)) ?_
  refine Reg.pures [8] (fuel' := 0) (.inl hb1) rfl (by kernel_rfl) ?_
  refine Reg.done (by kernel_rfl) ?_
  refine To.retv Try.func26 (by kernel_rfl) (v := Value.int IntKind.u32 (↑(x >>> 22 ||| x <<< 10).toNat : Int)) (by kernel_rfl) ?_
  exact ⟨_, _, rfl, ⟨rfl, rfl⟩, hs1⟩

theorem rot_25 (x : BitVec 32) : Trip Try.prog 27 [U x, .int .i64 (-25)] [] (fun v l => v = U (rr x 25) ∧ l = []) := by
  refine Trip.of Try.func27 (by kernel_rfl) fun E w L hs => ?_
  simp only [List.cons_append, List.nil_append] at hs
  refine To.run 16 ?_
  refine To.known 11 _ (by kernel_rfl) (U_shl (x) (7) (7) rfl) ?_
  refine To.run 4 ?_
  refine To.known 15 _ (by kernel_rfl) (U_shr (x) (25) (25) rfl) ?_
  refine To.run 1 ?_
  refine To.known 16 _ (by kernel_rfl) (U_or (x <<< 7) (x >>> 25)) ?_
  refine To.run 2 ?_
  refine To.retv Try.func27 (by kernel_rfl) (v := Value.int IntKind.u32 (↑(x <<< 7 ||| x >>> 25).toNat : Int)) (by kernel_rfl) ?_
  exact ⟨_, _, rfl, ⟨by unfold rr; rw [BitVec.or_comm], rfl⟩, hs⟩
theorem right_25 (x : BitVec 32) : Trip Try.prog 22 [U x, .int .i64 25] [] (fun v l => v = U (rr x 25) ∧ l = []) := by
  refine Trip.of Try.func22 (by kernel_rfl) fun E w L hs => ?_
  simp only [List.cons_append, List.nil_append] at hs
  refine To.run 9 ?_
  refine To.one (One.call 0 [] [] (g := 27) (args := [Value.int IntKind.u32 (↑x.toNat : Int), Value.int IntKind.i64 (-25)]) (by kernel_rfl) hs (rot_25 (x)) (by decide) rfl ?_)
  rintro _ _ w1 ⟨rfl, rfl⟩ hs1
  simp only [pickAll, List.filterMap_cons, List.filterMap_nil, List.getElem?_cons_zero, List.getElem?_cons_succ, List.cons_append, List.nil_append, List.drop_succ_cons, List.drop_zero] at hs1
  clear hs
  refine To.run 2 ?_
  refine To.retv Try.func22 (by kernel_rfl) (v := Value.int IntKind.u32 (↑(rr x 25).toNat : Int)) (by kernel_rfl) ?_
  exact ⟨_, _, rfl, ⟨rfl, rfl⟩, hs1⟩
theorem turn_25 (x : BitVec 32) : Trip Try.prog 26 [U x, .int .i64 25] [] (fun v l => v = U (rr x 25) ∧ l = []) := by
  refine Trip.of Try.func26 (by kernel_rfl) fun E w L hs => ?_
  simp only [List.cons_append, List.nil_append] at hs
  refine To.run 5 ?_
  refine To.draw [] [] 9 hs (by kernel_rfl) (by kernel_rfl) (by kernel_rfl) fun w1 hs1 => ?_
  clear hs
  have hb1 := Sat.holds hs1 [] rfl
  refine Reg.pures [0, 1, 2] (fuel' := 6) (.inl hb1) rfl (by kernel_rfl) ?_
  refine Reg.known 7 _ (by kernel_rfl) (U_shr (x) (25) (25) rfl) ?_
  refine Reg.pures [3, 4, 5, 6] (fuel' := 2) (.inl hb1) rfl (by kernel_rfl) ?_
  refine Reg.known 11 _ (by kernel_rfl) (U_shl (x) (7) (7) rfl) ?_
  refine Reg.pures [7] (fuel' := 1) (.inl hb1) rfl (by kernel_rfl) ?_
  refine Reg.known 12 _ (by kernel_rfl) (U_or (x >>> 25) (x <<< 7)) ?_
  refine Reg.pures [8] (fuel' := 0) (.inl hb1) rfl (by kernel_rfl) ?_
  refine Reg.done (by kernel_rfl) ?_
  refine To.retv Try.func26 (by kernel_rfl) (v := Value.int IntKind.u32 (↑(x >>> 25 ||| x <<< 7).toNat : Int)) (by kernel_rfl) ?_
  exact ⟨_, _, rfl, ⟨rfl, rfl⟩, hs1⟩

end Go.Proofs.Ytkddomellpldjaa
