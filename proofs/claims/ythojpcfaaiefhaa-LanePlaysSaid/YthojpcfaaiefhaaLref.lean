import Derived.Test.YthojpcfaaiefhaaProg
import Derived.Test.YthojpcfaaiefhaaSxLaw
import Derived.Test.YthojpcfaaiefhaaLane
set_option linter.unusedSimpArgs false
set_option linter.unusedVariables false
namespace Go.Proofs.Ythojpcfaaiefhaa
open Go Go.Sx

theorem Rnew_bad (room : Int) (h : room < 1 ∨ 16 < room) : Trip Try.prog 14 [.int .i64 room] [] (fun v l => v = .pointer none ∧ l = []) := by
  refine Trip.of Try.func14 (by kernel_rfl) fun E w L hs => ?_
  rcases h with h | h
  · simp only [List.cons_append, List.nil_append] at hs
    refine To.run 10 ?_
    refine To.isTrue 5 (t := decide (room < 1)) (by kernel_rfl) (by (simp; omega)) ?_
    refine To.run 9 ?_
    refine To.retv Try.func14 (by kernel_rfl) (v := Value.pointer none) (by kernel_rfl) ?_
    exact ⟨_, _, rfl, ⟨rfl, rfl⟩, hs⟩
  · simp only [List.cons_append, List.nil_append] at hs
    refine To.run 10 ?_
    refine To.isFalse 5 (t := decide (room < 1)) (by kernel_rfl) (by (simp; omega)) ?_
    refine To.run 4 ?_
    refine To.isTrue 8 (t := decide (room > 16)) (by kernel_rfl) (by (simp; omega)) ?_
    refine To.run 5 ?_
    refine To.retv Try.func14 (by kernel_rfl) (v := Value.pointer none) (by kernel_rfl) ?_
    exact ⟨_, _, rfl, ⟨rfl, rfl⟩, hs⟩

theorem Rnew_ok (room : Int) (h1 : 1 ≤ room) (h2 : room ≤ 16) : Trip Try.prog 14 [.int .i64 room] [] (fun v l => ∃ b, v = .pointer (some ⟨b, 0, none⟩) ∧ l = [cel b 40 [.slice none 0 0, .int .i64 room], seg none 0 3 []]) := by
  refine Trip.of Try.func14 (by kernel_rfl) fun E w L hs => ?_
  simp only [List.cons_append, List.nil_append] at hs
  refine To.run 10 ?_
  refine To.isFalse 5 (t := decide (room < 1)) (by kernel_rfl) (by (simp; omega)) ?_
  refine To.run 4 ?_
  refine To.isFalse 8 (t := decide (room > 16)) (by kernel_rfl) (by (simp; omega)) ?_
  refine To.run 6 ?_
  refine To.one (One.box (t := 40) (v := Value.agg #[Value.slice none 0 0, Value.int IntKind.i64 room]) [Value.slice none 0 0, Value.int IntKind.i64 room] hs (by kernel_rfl) (by kernel_rfl) fun b1 w1 hs1 => ?_)
  clear hs
  refine To.run 2 ?_
  refine To.retv Try.func14 (by kernel_rfl) (v := Value.pointer (some { block := b1, off := 0 })) (by kernel_rfl) ?_
  exact ⟨_, _, rfl, ⟨_, rfl, rfl⟩, hs1.segNil 1⟩

theorem Rdrain (b : Nat) (room : Int) (a : Option Addr) (n p : Nat) (xs : List Value) (hn : xs.length = n) : Trip Try.prog 16 [.pointer (some ⟨b, 0, none⟩)] [cel b 40 [.slice a n p, .int .i64 room], seg a p 3 xs]
    (fun v l => v = .slice a n p ∧ l = [cel b 40 [.slice none 0 0, .int .i64 room], seg none 0 3 [], seg a p 3 xs]) := by
  subst hn
  refine Trip.of Try.func16 (by kernel_rfl) fun E w L hs => ?_
  simp only [List.cons_append, List.nil_append] at hs
  refine To.run 9 ?_
  refine To.one (One.load 0 (t := 33) (off := 0) (v := Value.slice a xs.length p) hs rfl (by kernel_rfl) (by kernel_rfl) ?_)
  refine To.run 7 ?_
  refine To.one (One.store 0 (t := 33) (off := 0) (v := Value.slice none 0 0) (vs' := [Value.slice none 0 0, Value.int IntKind.i64 room]) hs rfl (by kernel_rfl) (by kernel_rfl) (by kernel_rfl) fun w1 hs1 => ?_)
  simp only [List.set_cons_zero, List.set_cons_succ] at hs1
  clear hs
  refine To.run 6 ?_
  refine To.retv Try.func16 (by kernel_rfl) (v := Value.slice a xs.length p) (by kernel_rfl) ?_
  exact ⟨_, _, rfl, ⟨rfl, rfl⟩, hs1.segNil 1⟩

theorem Rtake_none (b : Nat) (room : Int) (a : Option Addr) (p : Nat) : Trip Try.prog 18 [.pointer (some ⟨b, 0, none⟩)] [cel b 40 [.slice a 0 p, .int .i64 room], seg a p 3 []]
    (fun v l => v = .tuple #[.int .i64 0, .bool false] ∧ l = [cel b 40 [.slice a 0 p, .int .i64 room], seg a p 3 []]) := by
  refine Trip.of Try.func18 (by kernel_rfl) fun E w L hs => ?_
  simp only [List.cons_append, List.nil_append] at hs
  refine To.run 11 ?_
  refine To.one (One.load 0 (t := 33) (off := 0) (v := Value.slice a 0 p) hs rfl (by kernel_rfl) (by kernel_rfl) ?_)
  refine To.run 9 ?_
  refine To.retv Try.func18 (by kernel_rfl) (v := Value.tuple #[Value.int IntKind.i64 0, Value.bool false]) (by kernel_rfl) ?_
  exact ⟨_, _, rfl, ⟨rfl, rfl⟩, hs⟩

theorem Rtake_some (b : Nat) (room : Int) (a : Option Addr) (n p : Nat) (x : Value) (xs : List Value) (hn : xs.length + 1 = n) (hx : xs.length ≤ 1000) : Trip Try.prog 18 [.pointer (some ⟨b, 0, none⟩)] [cel b 40 [.slice a n p, .int .i64 room], seg a p 3 (x :: xs)]
    (fun v l => ∃ a' p', v = .tuple #[x, .bool true] ∧ l = [cel b 40 [.slice a' xs.length p', .int .i64 room], seg a' p' 3 xs]) := by
  subst hn
  refine Trip.of Try.func18 (by kernel_rfl) fun E w L hs => ?_
  simp only [List.cons_append, List.nil_append] at hs
  refine To.run 11 ?_
  refine To.one (One.load 0 (t := 33) (off := 0) (v := Value.slice a (xs.length + 1) p) hs rfl (by kernel_rfl) (by kernel_rfl) ?_)
  refine To.run 10 ?_
  refine To.one (One.load 0 (t := 33) (off := 0) (v := Value.slice a (xs.length + 1) p) hs rfl (by kernel_rfl) (by kernel_rfl) ?_)
  obtain ⟨b1, o1, rfl⟩ := Sat.segAddr hs 1 rfl (by first | omega | (simp; done) | (simp; omega))
  refine To.one (One.ixa (0) (o1 + 0) (t := 33) (b := b1) (off := o1) (len := xs.length + 1) (cap := p) (e := 3) (sz := 1) (kd := IntKind.i64) (i := 0) (by kernel_rfl) (by kernel_rfl) (rfl) (by first | omega | (simp; done) | (simp; omega)) (by omega) ?_)
  refine To.one (One.loadSeg 1 (0) (t := 3) (b := b1) (off := o1) (u := x) hs rfl (by kernel_rfl) (by first | rfl | omega) (rfl) (by kernel_rfl) ?_)
  refine To.run 8 ?_
  refine To.one (One.load 0 (t := 33) (off := 0) (v := Value.slice (some { block := b1, off := o1 }) (xs.length + 1) p) hs rfl (by kernel_rfl) (by kernel_rfl) ?_)
  refine To.one (One.slSeg 1 (1) (xs.length + 1) (xs) (lo := (some (Value.int IntKind.i64 1))) (hi' := none) (t := 33) (e := 3) (cap := p) (n := xs.length + 1) (a := some { block := b1, off := o1 }) (xs := x :: xs) hs rfl (by kernel_rfl) (by first | rfl | (simp; done)) (by kernel_rfl) (fun v h => ⟨_, _, (Option.some.inj h).symm, rfl⟩) (fun h => by cases h) (fun v h => by cases h) (fun _ => rfl) (by first | omega | (simp; done) | (simp; omega)) (by first | omega | (simp; done) | (simp; omega)) (by first | rfl | (simp; done)) fun a1 hs1 => ?_)
  simp only [List.set_cons_zero, List.set_cons_succ] at hs1
  clear hs
  refine To.run 2 ?_
  refine To.one (One.store 0 (t := 33) (off := 0) (v := Value.slice a1 xs.length (p - 1)) (vs' := [Value.slice a1 xs.length (p - 1), Value.int IntKind.i64 room]) hs1 rfl (by kernel_rfl) (by kernel_rfl) (by kernel_rfl) fun w1 hs2 => ?_)
  simp only [List.set_cons_zero, List.set_cons_succ] at hs2
  clear hs1
  refine To.run 7 ?_
  refine To.retv Try.func18 (by kernel_rfl) (v := Value.tuple #[x, Value.bool true]) (by kernel_rfl) ?_
  exact ⟨_, _, rfl, ⟨_, _, rfl, rfl⟩, hs2⟩

theorem Rput_full (b : Nat) (room : Int) (a : Option Addr) (n p : Nat) (xs : List Value) (x : Value) (hn : xs.length = n) (h : room ≤ n) : Trip Try.prog 20 [.pointer (some ⟨b, 0, none⟩), x] [cel b 40 [.slice a n p, .int .i64 room], seg a p 3 xs]
    (fun v l => v = .bool false ∧ l = [cel b 40 [.slice a n p, .int .i64 room], seg a p 3 xs]) := by
  subst hn
  refine Trip.of Try.func20 (by kernel_rfl) fun E w L hs => ?_
  simp only [List.cons_append, List.nil_append] at hs
  refine To.run 6 ?_
  refine To.draw [cel b 40 [Value.slice a xs.length p, Value.int IntKind.i64 room], seg a p 3 xs] 10 hs (by kernel_rfl) (by kernel_rfl) (by kernel_rfl) fun w1 hs1 => ?_
  clear hs
  have hb1 := Sat.holds hs1 [0, 1] rfl
  refine Reg.pures [0, 1, 2, 5, 6, 7] (fuel' := 4) hb1 rfl (by kernel_rfl) ?_
  refine Reg.load 3 0 (t := 33) (off := 0) (v := Value.slice a xs.length p) hb1 rfl (by kernel_rfl) (by kernel_rfl) (by kernel_rfl) ?_
  refine Reg.pures [4] (fuel' := 2) hb1 rfl (by kernel_rfl) ?_
  refine Reg.step 8 (by kernel_rfl) (One.load 0 (t := 3) (off := 1) (v := Value.int IntKind.i64 room) hs1 rfl (by kernel_rfl) (by kernel_rfl) ?_)
  have hb2 := Sat.holds hs1 [0, 1] (B := [cel b 40 [Value.slice a xs.length p, Value.int IntKind.i64 room], seg a p 3 xs]) rfl
  clear hb1
  refine ⟨hb2, ?_⟩
  refine Reg.pures [9] (fuel' := 0) hb2 rfl (by kernel_rfl) ?_
  refine Reg.done (by kernel_rfl) ?_
  clear hb2
  refine To.isTrue 14 (t := decide ((↑xs.length : Int) ≥ room)) (by kernel_rfl) (by (simp; omega)) ?_
  refine To.run 5 ?_
  refine To.retv Try.func20 (by kernel_rfl) (v := Value.bool false) (by kernel_rfl) ?_
  exact ⟨_, _, rfl, ⟨rfl, rfl⟩, hs1⟩

theorem Rput_room (b : Nat) (room : Int) (a : Option Addr) (n p : Nat) (xs : List Int) (x : Int) (hn : xs.length = n) (h : n < room) (h16 : room ≤ 16) : Trip Try.prog 20 [.pointer (some ⟨b, 0, none⟩), .int .i64 x] [cel b 40 [.slice a n p, .int .i64 room], seg a p 3 (xs.map (Value.int .i64))]
    (fun v l => ∃ a' p', v = .bool true ∧ l = [cel b 40 [.slice a' (n + 1) p', .int .i64 room], seg a' p' 3 ((xs ++ [x]).map (Value.int .i64))]) := by
  subst hn
  refine Trip.of Try.func20 (by kernel_rfl) fun E w L hs => ?_
  simp only [List.cons_append, List.nil_append] at hs
  refine To.run 6 ?_
  refine To.draw [cel b 40 [Value.slice a xs.length p, Value.int IntKind.i64 room], seg a p 3 (List.map (Value.int IntKind.i64) xs)] 10 hs (by kernel_rfl) (by kernel_rfl) (by kernel_rfl) fun w1 hs1 => ?_
  clear hs
  have hb1 := Sat.holds hs1 [0, 1] rfl
  refine Reg.pures [0, 1, 2, 5, 6, 7] (fuel' := 4) hb1 rfl (by kernel_rfl) ?_
  refine Reg.load 3 0 (t := 33) (off := 0) (v := Value.slice a xs.length p) hb1 rfl (by kernel_rfl) (by kernel_rfl) (by kernel_rfl) ?_
  refine Reg.pures [4] (fuel' := 2) hb1 rfl (by kernel_rfl) ?_
  refine Reg.step 8 (by kernel_rfl) (One.load 0 (t := 3) (off := 1) (v := Value.int IntKind.i64 room) hs1 rfl (by kernel_rfl) (by kernel_rfl) ?_)
  have hb2 := Sat.holds hs1 [0, 1] (B := [cel b 40 [Value.slice a xs.length p, Value.int IntKind.i64 room], seg a p 3 (List.map (Value.int IntKind.i64) xs)]) rfl
  clear hb1
  refine ⟨hb2, ?_⟩
  refine Reg.pures [9] (fuel' := 0) hb2 rfl (by kernel_rfl) ?_
  refine Reg.done (by kernel_rfl) ?_
  clear hb2
  refine To.isFalse 14 (t := decide ((↑xs.length : Int) ≥ room)) (by kernel_rfl) (by (simp; omega)) ?_
  refine To.run 8 ?_
  refine To.one (One.load 0 (t := 33) (off := 0) (v := Value.slice a xs.length p) hs1 rfl (by kernel_rfl) (by kernel_rfl) ?_)
  refine To.one (One.clone 1 (t := 33) (ty := 33) (e := 3) (by_ := 8) (cap := p) (n := xs.length) (a := a) (xs := List.map (Value.int IntKind.i64) xs) hs1 rfl (by kernel_rfl) (by first | rfl | (simp; done)) (by kernel_rfl) (by first | assumption | exact oneCells_int _ _ | exact oneCells_str _ | exact oneCells_bool _ | rfl) (by first | omega | (simp; omega)) (by first | omega | (simp; omega)) fun a1 cap1 w2 hs2 => ?_)
  clear hs1
  refine To.run 1 ?_
  refine To.one (One.slit (t := 33) (n := 1) (parts := [(0, Value.int IntKind.i64 x)]) 3 [Value.int IntKind.i64 x] hs2 (by kernel_rfl) (by kernel_rfl) fun b1 w3 hs1 => ?_)
  clear hs2
  refine To.one (One.appRow 1 (t := 33) (ty := 33) (e := 3) (by_ := 8) (a := a1) (cap := cap1) (m := 1) (cp := 1) (n := (List.map (Value.int IntKind.i64) xs).length) (xs := List.map (Value.int IntKind.i64) xs) (news := [Value.int IntKind.i64 x]) (b := b1) (off := 0) hs1 rfl (by kernel_rfl) (by first | rfl | (simp; done)) (by kernel_rfl) (by first | rfl | (simp; done)) (fun j u hj => cell_row hs1 0 rfl hj) (by kernel_rfl) (by first | omega | (simp; omega)) (by first | omega | (simp; omega)) fun a2 cap2 w4 hs2 => ?_)
  simp only [List.set_cons_zero, List.set_cons_succ] at hs2
  clear hs1
  replace hs2 := Sat.selDrop hs2 4 [1, 2, 3] (by decide) (by decide)
  simp only [pickAll, List.filterMap_cons, List.filterMap_nil, List.getElem?_cons_zero, List.getElem?_cons_succ, List.cons_append, List.nil_append, List.drop_succ_cons, List.drop_zero] at hs2
  refine To.run 2 ?_
  refine To.one (One.store 1 (t := 33) (off := 0) (v := Value.slice a2 (List.map (Value.int IntKind.i64) xs ++ [Value.int IntKind.i64 x]).length cap2) (vs' := [Value.slice a2 (List.map (Value.int IntKind.i64) xs ++ [Value.int IntKind.i64 x]).length cap2, Value.int IntKind.i64 room]) hs2 rfl (by kernel_rfl) (by kernel_rfl) (by kernel_rfl) fun w5 hs1 => ?_)
  simp only [List.set_cons_zero, List.set_cons_succ] at hs1
  clear hs2
  refine To.run 5 ?_
  refine To.retv Try.func20 (by kernel_rfl) (v := Value.bool true) (by kernel_rfl) ?_
  have h3 := (hs1.rowSeg 0 rfl).selDrop 3 [1, 0] (by decide) (by decide)
  exact ⟨_, _, rfl, ⟨a2, cap2, rfl, rfl⟩, by simpa [pickAll] using h3⟩
end Go.Proofs.Ythojpcfaaiefhaa
