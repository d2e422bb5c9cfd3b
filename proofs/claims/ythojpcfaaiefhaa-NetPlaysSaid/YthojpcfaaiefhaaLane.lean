import Derived.Test.YthojpcfaaiefhaaProg
import Derived.Test.YthojpcfaaiefhaaSxReg
set_option linter.unusedSimpArgs false
set_option linter.unusedVariables false
namespace Go.Proofs.Ythojpcfaaiefhaa
open Go Go.Sx


theorem NewI_bad (room : Int) (h : room < 1 ∨ 16 < room) : Trip Try.prog 13 [.int .i64 room] [] (fun v l => v = .tuple #[.pointer none, .int .i64 1] ∧ l = []) := by
  refine Trip.of Try.func13 (by kernel_rfl) fun E w L hs => ?_
  rcases h with h | h
  · simp only [List.cons_append, List.nil_append] at hs
    refine To.run 11 ?_
    refine To.isTrue 6 (t := decide (room < 1)) (by kernel_rfl) (by (simp; omega)) ?_
    refine To.run 10 ?_
    refine To.retv Try.func13 (by kernel_rfl) (v := Value.tuple #[Value.pointer none, Value.int IntKind.i64 1]) (by kernel_rfl) ?_
    exact ⟨_, _, rfl, ⟨rfl, rfl⟩, hs⟩
  · simp only [List.cons_append, List.nil_append] at hs
    refine To.run 11 ?_
    refine To.isFalse 6 (t := decide (room < 1)) (by kernel_rfl) (by (simp; omega)) ?_
    refine To.run 4 ?_
    refine To.isTrue 9 (t := decide (room > 16)) (by kernel_rfl) (by (simp; omega)) ?_
    refine To.run 6 ?_
    refine To.retv Try.func13 (by kernel_rfl) (v := Value.tuple #[Value.pointer none, Value.int IntKind.i64 1]) (by kernel_rfl) ?_
    exact ⟨_, _, rfl, ⟨rfl, rfl⟩, hs⟩

theorem NewI_ok (room : Int) (h1 : 1 ≤ room) (h2 : room ≤ 16) : Trip Try.prog 13 [.int .i64 room] [] (fun v l => ∃ b c, v = .tuple #[.pointer (some ⟨b, 0, none⟩), .int .i64 0] ∧ l = [cel b 103 [.chan (some c)], chn c room.toNat []]) := by
  refine Trip.of Try.func13 (by kernel_rfl) fun E w L hs => ?_
  simp only [List.cons_append, List.nil_append] at hs
  refine To.run 11 ?_
  refine To.isFalse 6 (t := decide (room < 1)) (by kernel_rfl) (by (simp; omega)) ?_
  refine To.run 4 ?_
  refine To.isFalse 9 (t := decide (room > 16)) (by kernel_rfl) (by (simp; omega)) ?_
  refine To.run 5 ?_
  refine To.one (One.mkc (t := 101) (n := room.toNat) (by_ := 8) (kd := IntKind.i64) (m := room) hs (by kernel_rfl) (by omega) (by kernel_rfl) (by omega) (by omega) fun b1 w1 hs1 => ?_)
  clear hs
  refine To.run 1 ?_
  refine To.one (One.box (t := 103) (v := Value.agg #[Value.chan (some b1)]) [Value.chan (some b1)] hs1 (by kernel_rfl) (by kernel_rfl) fun b2 w2 hs2 => ?_)
  clear hs1
  refine To.run 3 ?_
  refine To.retv Try.func13 (by kernel_rfl) (v := Value.tuple #[Value.pointer (some { block := b2, off := 0 }), Value.int IntKind.i64 0]) (by kernel_rfl) ?_
  exact ⟨_, _, rfl, ⟨_, _, rfl, rfl⟩, hs2⟩

theorem PutI_room (b c cap : Nat) (xs : List Value) (x : Value) (h : xs.length < cap) : Trip Try.prog 19 [.pointer (some ⟨b, 0, none⟩), x] [cel b 103 [.chan (some c)], chn c cap xs] (fun v l => v = .bool true ∧ l = [cel b 103 [.chan (some c)], chn c cap (xs ++ [x])]) := by
  refine Trip.of Try.func19 (by kernel_rfl) fun E w L hs => ?_
  simp only [List.cons_append, List.nil_append] at hs
  refine To.run 10 ?_
  refine To.one (One.load 0 (t := 101) (off := 0) (v := Value.chan (some c)) hs rfl (by kernel_rfl) (by kernel_rfl) ?_)
  refine To.run 6 ?_
  refine To.send_room 1 (ch := c) (cap := cap) (xs := xs) (v := x) (z := Value.int IntKind.i64 0) (el := 3) hs rfl (by kernel_rfl) (by kernel_rfl) (by assumption) fun w1 hs1 => ?_
  simp only [List.set_cons_zero, List.set_cons_succ] at hs1
  clear hs
  refine To.run 9 ?_
  refine To.retv Try.func19 (by kernel_rfl) (v := Value.bool true) (by kernel_rfl) ?_
  exact ⟨_, _, rfl, ⟨rfl, rfl⟩, hs1⟩

theorem PutI_full (b c cap : Nat) (xs : List Value) (x : Value) (h : cap ≤ xs.length) : Trip Try.prog 19 [.pointer (some ⟨b, 0, none⟩), x] [cel b 103 [.chan (some c)], chn c cap xs] (fun v l => v = .bool false ∧ l = [cel b 103 [.chan (some c)], chn c cap xs]) := by
  refine Trip.of Try.func19 (by kernel_rfl) fun E w L hs => ?_
  simp only [List.cons_append, List.nil_append] at hs
  refine To.run 10 ?_
  refine To.one (One.load 0 (t := 101) (off := 0) (v := Value.chan (some c)) hs rfl (by kernel_rfl) (by kernel_rfl) ?_)
  refine To.run 6 ?_
  refine To.send_full 1 (ch := c) (cap := cap) (xs := xs) (v := x) (z := Value.int IntKind.i64 0) (el := 3) hs rfl (by kernel_rfl) (by kernel_rfl) (by assumption) ?_
  refine To.run 9 ?_
  refine To.retv Try.func19 (by kernel_rfl) (v := Value.bool false) (by kernel_rfl) ?_
  exact ⟨_, _, rfl, ⟨rfl, rfl⟩, hs⟩

theorem TakeI_some (b c cap : Nat) (x : Value) (xs : List Value) : Trip Try.prog 17 [.pointer (some ⟨b, 0, none⟩)] [cel b 103 [.chan (some c)], chn c cap (x :: xs)] (fun v l => v = .tuple #[x, .bool true] ∧ l = [cel b 103 [.chan (some c)], chn c cap xs]) := by
  refine Trip.of Try.func17 (by kernel_rfl) fun E w L hs => ?_
  simp only [List.cons_append, List.nil_append] at hs
  refine To.run 10 ?_
  refine To.one (One.load 0 (t := 101) (off := 0) (v := Value.chan (some c)) hs rfl (by kernel_rfl) (by kernel_rfl) ?_)
  refine To.run 3 ?_
  refine To.recv_some 1 (ch := c) (cap := cap) (xs := xs) (v := x) (z := Value.int IntKind.i64 0) (el := 3) hs rfl (by kernel_rfl) (by kernel_rfl) fun w1 hs1 => ?_
  simp only [List.set_cons_zero, List.set_cons_succ] at hs1
  clear hs
  refine To.run 16 ?_
  refine To.retv Try.func17 (by kernel_rfl) (v := Value.tuple #[x, Value.bool true]) (by kernel_rfl) ?_
  exact ⟨_, _, rfl, ⟨rfl, rfl⟩, hs1⟩

theorem TakeI_none (b c cap : Nat) : Trip Try.prog 17 [.pointer (some ⟨b, 0, none⟩)] [cel b 103 [.chan (some c)], chn c cap []] (fun v l => v = .tuple #[Value.int .i64 0, .bool false] ∧ l = [cel b 103 [.chan (some c)], chn c cap []]) := by
  refine Trip.of Try.func17 (by kernel_rfl) fun E w L hs => ?_
  simp only [List.cons_append, List.nil_append] at hs
  refine To.run 10 ?_
  refine To.one (One.load 0 (t := 101) (off := 0) (v := Value.chan (some c)) hs rfl (by kernel_rfl) (by kernel_rfl) ?_)
  refine To.run 3 ?_
  refine To.recv_none 1 (ch := c) (cap := cap) (z := Value.int IntKind.i64 0) (el := 3) hs rfl (by kernel_rfl) (by kernel_rfl) ?_
  refine To.run 11 ?_
  refine To.retv Try.func17 (by kernel_rfl) (v := Value.tuple #[Value.int IntKind.i64 0, Value.bool false]) (by kernel_rfl) ?_
  exact ⟨_, _, rfl, ⟨rfl, rfl⟩, hs⟩


theorem LenI_ok (b c cap : Nat) (xs : List Value) : Trip Try.prog 21 [.pointer (some ⟨b, 0, none⟩)] [cel b 103 [.chan (some c)], chn c cap xs] (fun v l => v = .int .i64 xs.length ∧ l = [cel b 103 [.chan (some c)], chn c cap xs]) := by
  refine Trip.of Try.func21 (by kernel_rfl) fun E w L hs => ?_
  simp only [List.cons_append, List.nil_append] at hs
  refine To.run 9 ?_
  refine To.one (One.load 0 (t := 101) (off := 0) (v := Value.chan (some c)) hs rfl (by kernel_rfl) (by kernel_rfl) ?_)
  refine To.one (One.chlen 1 (ch := c) (cap := cap) (xs := xs) (t := 101) (ty := 3) hs rfl (by kernel_rfl) (by kernel_rfl) ?_)
  refine To.run 2 ?_
  refine To.retv Try.func21 (by kernel_rfl) (v := Value.int IntKind.i64 (↑xs.length : Int)) (by kernel_rfl) ?_
  exact ⟨_, _, rfl, ⟨rfl, rfl⟩, hs⟩


theorem RoomI_ok (b c cap : Nat) (xs : List Value) : Trip Try.prog 22 [.pointer (some ⟨b, 0, none⟩)] [cel b 103 [.chan (some c)], chn c cap xs] (fun v l => v = .int .i64 cap ∧ l = [cel b 103 [.chan (some c)], chn c cap xs]) := by
  refine Trip.of Try.func22 (by kernel_rfl) fun E w L hs => ?_
  simp only [List.cons_append, List.nil_append] at hs
  refine To.run 9 ?_
  refine To.one (One.load 0 (t := 101) (off := 0) (v := Value.chan (some c)) hs rfl (by kernel_rfl) (by kernel_rfl) ?_)
  refine To.one (One.chcap 1 (ch := c) (cap := cap) (xs := xs) (t := 101) (ty := 3) hs rfl (by kernel_rfl) (by kernel_rfl) ?_)
  refine To.run 2 ?_
  refine To.retv Try.func22 (by kernel_rfl) (v := Value.int IntKind.i64 (↑cap : Int)) (by kernel_rfl) ?_
  exact ⟨_, _, rfl, ⟨rfl, rfl⟩, hs⟩


theorem DrainI_loop (b c cap : Nat) (E : World) (L : List Res) : ∀ (zs acc : List Int) (z : Int) (a : Option Addr) (p : Nat) (j : Nat → Value) (w : World), acc.length + zs.length ≤ 1000 →
    Sat E w (cel b 103 [.chan (some c)] :: chn c cap (zs.map (Value.int .i64)) :: row a p 3 (acc.map (Value.int .i64)) :: L) →
    To Try.prog 15 (Cfg.here Try.f15 4 j [(0, .pointer (some ⟨b, 0, none⟩)), (3, .slice a acc.length p), (4, Value.int .i64 z), (5, .bool true)]) w
      (Fins E L fun v l => ∃ s p, v = .slice s (acc.length + 1 + zs.length) p ∧ l = [cel b 103 [.chan (some c)], chn c cap [], row s p 3 ((acc ++ z :: zs).map (Value.int .i64))]) := by
  intro zs
  induction zs with
  | nil =>
    intro acc z a p j w hlen hs
    simp only [List.map_nil, List.length_nil, Nat.add_zero] at hs hlen ⊢
    refine To.run 12 ?_
    refine To.one (One.slit (t := 33) (n := 1) (parts := [(0, Value.int IntKind.i64 z)]) 3 [Value.int IntKind.i64 z] hs (by kernel_rfl) (by kernel_rfl) fun b1 w1 hs1 => ?_)
    clear hs
    refine To.one (One.appRow 3 (t := 33) (ty := 33) (e := 3) (by_ := 8) (a := a) (cap := p) (m := 1) (cp := 1) (n := acc.length) (xs := List.map (Value.int IntKind.i64) acc) (news := [Value.int IntKind.i64 z]) (b := b1) (off := 0) hs1 rfl (by kernel_rfl) (by first | rfl | (simp; done)) (by kernel_rfl) (by first | rfl | (simp; done)) (fun j u hj => cell_row hs1 0 rfl hj) (by kernel_rfl) (by first | omega | (simp; omega)) (by first | omega | (simp; omega)) fun a1 cap1 w2 hs2 => ?_)
    simp only [List.set_cons_zero, List.set_cons_succ] at hs2
    clear hs1
    replace hs2 := Sat.selDrop hs2 4 [1, 2, 3] (by decide) (by decide)
    simp only [pickAll, List.filterMap_cons, List.filterMap_nil, List.getElem?_cons_zero, List.getElem?_cons_succ, List.cons_append, List.nil_append, List.drop_succ_cons, List.drop_zero] at hs2
    refine To.run 5 ?_
    refine To.one (One.call 3 [0, 1] [2] (g := 17) (args := [Value.pointer (some { block := b, off := 0 })]) (by kernel_rfl) hs2 (TakeI_none (b) (c) (cap)) (by decide) rfl ?_)
    rintro _ _ w3 ⟨rfl, rfl⟩ hs1
    simp only [pickAll, List.filterMap_cons, List.filterMap_nil, List.getElem?_cons_zero, List.getElem?_cons_succ, List.cons_append, List.nil_append, List.drop_succ_cons, List.drop_zero] at hs1
    clear hs2
    refine To.run 6 ?_
    refine To.run 1 ?_
    refine To.run 12 ?_
    refine To.retv Try.func15 (by kernel_rfl) (v := Value.slice a1 (List.map (Value.int IntKind.i64) acc ++ [Value.int IntKind.i64 z]).length cap1) (by kernel_rfl) ?_
    exact ⟨_, _, rfl, ⟨a1, cap1, by simp, rfl⟩, by simpa using hs1⟩
  | cons y zs ih =>
    intro acc z a p j w hlen hs
    simp only [List.map_cons, List.length_cons] at hs hlen ⊢
    refine To.run 12 ?_
    refine To.one (One.slit (t := 33) (n := 1) (parts := [(0, Value.int IntKind.i64 z)]) 3 [Value.int IntKind.i64 z] hs (by kernel_rfl) (by kernel_rfl) fun b1 w1 hs1 => ?_)
    clear hs
    refine To.one (One.appRow 3 (t := 33) (ty := 33) (e := 3) (by_ := 8) (a := a) (cap := p) (m := 1) (cp := 1) (n := acc.length) (xs := List.map (Value.int IntKind.i64) acc) (news := [Value.int IntKind.i64 z]) (b := b1) (off := 0) hs1 rfl (by kernel_rfl) (by first | rfl | (simp; done)) (by kernel_rfl) (by first | rfl | (simp; done)) (fun j u hj => cell_row hs1 0 rfl hj) (by kernel_rfl) (by first | omega | (simp; omega)) (by first | omega | (simp; omega)) fun a1 cap1 w2 hs2 => ?_)
    simp only [List.set_cons_zero, List.set_cons_succ] at hs2
    clear hs1
    replace hs2 := Sat.selDrop hs2 4 [1, 2, 3] (by decide) (by decide)
    simp only [pickAll, List.filterMap_cons, List.filterMap_nil, List.getElem?_cons_zero, List.getElem?_cons_succ, List.cons_append, List.nil_append, List.drop_succ_cons, List.drop_zero] at hs2
    refine To.run 5 ?_
    refine To.one (One.call 3 [0, 1] [2] (g := 17) (args := [Value.pointer (some { block := b, off := 0 })]) (by kernel_rfl) hs2 (TakeI_some (b) (c) (cap) (Value.int IntKind.i64 y) (List.map (Value.int IntKind.i64) zs)) (by decide) rfl ?_)
    rintro _ _ w3 ⟨rfl, rfl⟩ hs1
    simp only [pickAll, List.filterMap_cons, List.filterMap_nil, List.getElem?_cons_zero, List.getElem?_cons_succ, List.cons_append, List.nil_append, List.drop_succ_cons, List.drop_zero] at hs1
    clear hs2
    refine To.run 6 ?_
    refine To.run 1 ?_
    refine To.at (fn := Try.f15) (n := 4) (l := [(0, Value.pointer (some { block := b, off := 0 })), (3, Value.slice a1 (List.map (Value.int IntKind.i64) acc ++ [Value.int IntKind.i64 z]).length cap1), (4, Value.int IntKind.i64 y), (5, Value.bool true)]) (by kernel_rfl) fun j => ?_
    have := ih (acc ++ [z]) y a1 cap1 j w3 (by simp; omega) (by simpa using hs1)
    simpa [Nat.add_assoc, Nat.add_comm, Nat.add_left_comm] using this

theorem DrainI_ok (b c cap : Nat) (zs : List Int) (hz : zs.length ≤ 1000) : Trip Try.prog 15 [.pointer (some ⟨b, 0, none⟩)] [cel b 103 [.chan (some c)], chn c cap (zs.map (Value.int .i64))] (fun v l => ∃ s p, v = .slice s zs.length p ∧ l = [cel b 103 [.chan (some c)], chn c cap [], row s p 3 (zs.map (Value.int .i64))]) := by
  refine Trip.of Try.func15 (by kernel_rfl) fun E w L hs => ?_
  cases zs with
  | nil =>
    simp only [List.map_nil] at hs ⊢
    simp only [List.cons_append, List.nil_append] at hs
    refine To.run 12 ?_
    refine To.one (One.call 2 [0, 1] [] (g := 17) (args := [Value.pointer (some { block := b, off := 0 })]) (by kernel_rfl) hs (TakeI_none (b) (c) (cap)) (by decide) rfl ?_)
    rintro _ _ w1 ⟨rfl, rfl⟩ hs1
    simp only [pickAll, List.filterMap_cons, List.filterMap_nil, List.getElem?_cons_zero, List.getElem?_cons_succ, List.cons_append, List.nil_append, List.drop_succ_cons, List.drop_zero] at hs1
    clear hs
    refine To.run 7 ?_
    refine To.run 1 ?_
    refine To.run 12 ?_
    refine To.retv Try.func15 (by kernel_rfl) (v := Value.slice none 0 0) (by kernel_rfl) ?_
    exact ⟨_, _, rfl, ⟨_, _, rfl, rfl⟩, hs1.rowNil 2⟩
  | cons x xs =>
    simp only [List.map_cons, List.length_cons] at hs hz ⊢
    simp only [List.cons_append, List.nil_append] at hs
    refine To.run 12 ?_
    refine To.one (One.call 2 [0, 1] [] (g := 17) (args := [Value.pointer (some { block := b, off := 0 })]) (by kernel_rfl) hs (TakeI_some (b) (c) (cap) (Value.int IntKind.i64 x) (List.map (Value.int IntKind.i64) xs)) (by decide) rfl ?_)
    rintro _ _ w1 ⟨rfl, rfl⟩ hs1
    simp only [pickAll, List.filterMap_cons, List.filterMap_nil, List.getElem?_cons_zero, List.getElem?_cons_succ, List.cons_append, List.nil_append, List.drop_succ_cons, List.drop_zero] at hs1
    clear hs
    refine To.run 7 ?_
    refine To.run 1 ?_
    refine To.at (fn := Try.f15) (n := 4) (l := [(0, Value.pointer (some { block := b, off := 0 })), (3, Value.slice none 0 0), (4, Value.int IntKind.i64 x), (5, Value.bool true)]) (by kernel_rfl) fun j => ?_
    have := DrainI_loop b c cap E L xs [] x none 0 j w1 (by simp; omega) (hs1.rowNil 2)
    simpa [Nat.add_comm] using this


theorem NewS_bad (room : Int) (h : room < 1 ∨ 16 < room) : Trip Try.prog 23 [.int .i64 room] [] (fun v l => v = .tuple #[.pointer none, .int .i64 1] ∧ l = []) := by
  refine Trip.of Try.func23 (by kernel_rfl) fun E w L hs => ?_
  rcases h with h | h
  · simp only [List.cons_append, List.nil_append] at hs
    refine To.run 11 ?_
    refine To.isTrue 6 (t := decide (room < 1)) (by kernel_rfl) (by (simp; omega)) ?_
    refine To.run 10 ?_
    refine To.retv Try.func23 (by kernel_rfl) (v := Value.tuple #[Value.pointer none, Value.int IntKind.i64 1]) (by kernel_rfl) ?_
    exact ⟨_, _, rfl, ⟨rfl, rfl⟩, hs⟩
  · simp only [List.cons_append, List.nil_append] at hs
    refine To.run 11 ?_
    refine To.isFalse 6 (t := decide (room < 1)) (by kernel_rfl) (by (simp; omega)) ?_
    refine To.run 4 ?_
    refine To.isTrue 9 (t := decide (room > 16)) (by kernel_rfl) (by (simp; omega)) ?_
    refine To.run 6 ?_
    refine To.retv Try.func23 (by kernel_rfl) (v := Value.tuple #[Value.pointer none, Value.int IntKind.i64 1]) (by kernel_rfl) ?_
    exact ⟨_, _, rfl, ⟨rfl, rfl⟩, hs⟩

theorem NewS_ok (room : Int) (h1 : 1 ≤ room) (h2 : room ≤ 16) : Trip Try.prog 23 [.int .i64 room] [] (fun v l => ∃ b c, v = .tuple #[.pointer (some ⟨b, 0, none⟩), .int .i64 0] ∧ l = [cel b 106 [.chan (some c)], chn c room.toNat []]) := by
  refine Trip.of Try.func23 (by kernel_rfl) fun E w L hs => ?_
  simp only [List.cons_append, List.nil_append] at hs
  refine To.run 11 ?_
  refine To.isFalse 6 (t := decide (room < 1)) (by kernel_rfl) (by (simp; omega)) ?_
  refine To.run 4 ?_
  refine To.isFalse 9 (t := decide (room > 16)) (by kernel_rfl) (by (simp; omega)) ?_
  refine To.run 5 ?_
  refine To.one (One.mkc (t := 104) (n := room.toNat) (by_ := 16) (kd := IntKind.i64) (m := room) hs (by kernel_rfl) (by omega) (by kernel_rfl) (by omega) (by omega) fun b1 w1 hs1 => ?_)
  clear hs
  refine To.run 1 ?_
  refine To.one (One.box (t := 106) (v := Value.agg #[Value.chan (some b1)]) [Value.chan (some b1)] hs1 (by kernel_rfl) (by kernel_rfl) fun b2 w2 hs2 => ?_)
  clear hs1
  refine To.run 3 ?_
  refine To.retv Try.func23 (by kernel_rfl) (v := Value.tuple #[Value.pointer (some { block := b2, off := 0 }), Value.int IntKind.i64 0]) (by kernel_rfl) ?_
  exact ⟨_, _, rfl, ⟨_, _, rfl, rfl⟩, hs2⟩

theorem PutS_room (b c cap : Nat) (xs : List Value) (x : Value) (h : xs.length < cap) : Trip Try.prog 24 [.pointer (some ⟨b, 0, none⟩), x] [cel b 106 [.chan (some c)], chn c cap xs] (fun v l => v = .bool true ∧ l = [cel b 106 [.chan (some c)], chn c cap (xs ++ [x])]) := by
  refine Trip.of Try.func24 (by kernel_rfl) fun E w L hs => ?_
  simp only [List.cons_append, List.nil_append] at hs
  refine To.run 10 ?_
  refine To.one (One.load 0 (t := 104) (off := 0) (v := Value.chan (some c)) hs rfl (by kernel_rfl) (by kernel_rfl) ?_)
  refine To.run 6 ?_
  refine To.send_room 1 (ch := c) (cap := cap) (xs := xs) (v := x) (z := Value.string { data := #[] }) (el := 9) hs rfl (by kernel_rfl) (by kernel_rfl) (by assumption) fun w1 hs1 => ?_
  simp only [List.set_cons_zero, List.set_cons_succ] at hs1
  clear hs
  refine To.run 9 ?_
  refine To.retv Try.func24 (by kernel_rfl) (v := Value.bool true) (by kernel_rfl) ?_
  exact ⟨_, _, rfl, ⟨rfl, rfl⟩, hs1⟩

theorem PutS_full (b c cap : Nat) (xs : List Value) (x : Value) (h : cap ≤ xs.length) : Trip Try.prog 24 [.pointer (some ⟨b, 0, none⟩), x] [cel b 106 [.chan (some c)], chn c cap xs] (fun v l => v = .bool false ∧ l = [cel b 106 [.chan (some c)], chn c cap xs]) := by
  refine Trip.of Try.func24 (by kernel_rfl) fun E w L hs => ?_
  simp only [List.cons_append, List.nil_append] at hs
  refine To.run 10 ?_
  refine To.one (One.load 0 (t := 104) (off := 0) (v := Value.chan (some c)) hs rfl (by kernel_rfl) (by kernel_rfl) ?_)
  refine To.run 6 ?_
  refine To.send_full 1 (ch := c) (cap := cap) (xs := xs) (v := x) (z := Value.string { data := #[] }) (el := 9) hs rfl (by kernel_rfl) (by kernel_rfl) (by assumption) ?_
  refine To.run 9 ?_
  refine To.retv Try.func24 (by kernel_rfl) (v := Value.bool false) (by kernel_rfl) ?_
  exact ⟨_, _, rfl, ⟨rfl, rfl⟩, hs⟩

theorem TakeS_some (b c cap : Nat) (x : Value) (xs : List Value) : Trip Try.prog 26 [.pointer (some ⟨b, 0, none⟩)] [cel b 106 [.chan (some c)], chn c cap (x :: xs)] (fun v l => v = .tuple #[x, .bool true] ∧ l = [cel b 106 [.chan (some c)], chn c cap xs]) := by
  refine Trip.of Try.func26 (by kernel_rfl) fun E w L hs => ?_
  simp only [List.cons_append, List.nil_append] at hs
  refine To.run 10 ?_
  refine To.one (One.load 0 (t := 104) (off := 0) (v := Value.chan (some c)) hs rfl (by kernel_rfl) (by kernel_rfl) ?_)
  refine To.run 3 ?_
  refine To.recv_some 1 (ch := c) (cap := cap) (xs := xs) (v := x) (z := Value.string { data := #[] }) (el := 9) hs rfl (by kernel_rfl) (by kernel_rfl) fun w1 hs1 => ?_
  simp only [List.set_cons_zero, List.set_cons_succ] at hs1
  clear hs
  refine To.run 16 ?_
  refine To.retv Try.func26 (by kernel_rfl) (v := Value.tuple #[x, Value.bool true]) (by kernel_rfl) ?_
  exact ⟨_, _, rfl, ⟨rfl, rfl⟩, hs1⟩

theorem TakeS_none (b c cap : Nat) : Trip Try.prog 26 [.pointer (some ⟨b, 0, none⟩)] [cel b 106 [.chan (some c)], chn c cap []] (fun v l => v = .tuple #[Value.string ⟨#[]⟩, .bool false] ∧ l = [cel b 106 [.chan (some c)], chn c cap []]) := by
  refine Trip.of Try.func26 (by kernel_rfl) fun E w L hs => ?_
  simp only [List.cons_append, List.nil_append] at hs
  refine To.run 10 ?_
  refine To.one (One.load 0 (t := 104) (off := 0) (v := Value.chan (some c)) hs rfl (by kernel_rfl) (by kernel_rfl) ?_)
  refine To.run 3 ?_
  refine To.recv_none 1 (ch := c) (cap := cap) (z := Value.string { data := #[] }) (el := 9) hs rfl (by kernel_rfl) (by kernel_rfl) ?_
  refine To.run 11 ?_
  refine To.retv Try.func26 (by kernel_rfl) (v := Value.tuple #[Value.string { data := #[] }, Value.bool false]) (by kernel_rfl) ?_
  exact ⟨_, _, rfl, ⟨rfl, rfl⟩, hs⟩


theorem LenS_ok (b c cap : Nat) (xs : List Value) : Trip Try.prog 25 [.pointer (some ⟨b, 0, none⟩)] [cel b 106 [.chan (some c)], chn c cap xs] (fun v l => v = .int .i64 xs.length ∧ l = [cel b 106 [.chan (some c)], chn c cap xs]) := by
  refine Trip.of Try.func25 (by kernel_rfl) fun E w L hs => ?_
  simp only [List.cons_append, List.nil_append] at hs
  refine To.run 9 ?_
  refine To.one (One.load 0 (t := 104) (off := 0) (v := Value.chan (some c)) hs rfl (by kernel_rfl) (by kernel_rfl) ?_)
  refine To.one (One.chlen 1 (ch := c) (cap := cap) (xs := xs) (t := 104) (ty := 3) hs rfl (by kernel_rfl) (by kernel_rfl) ?_)
  refine To.run 2 ?_
  refine To.retv Try.func25 (by kernel_rfl) (v := Value.int IntKind.i64 (↑xs.length : Int)) (by kernel_rfl) ?_
  exact ⟨_, _, rfl, ⟨rfl, rfl⟩, hs⟩


theorem RoomS_ok (b c cap : Nat) (xs : List Value) : Trip Try.prog 64 [.pointer (some ⟨b, 0, none⟩)] [cel b 106 [.chan (some c)], chn c cap xs] (fun v l => v = .int .i64 cap ∧ l = [cel b 106 [.chan (some c)], chn c cap xs]) := by
  refine Trip.of Try.func64 (by kernel_rfl) fun E w L hs => ?_
  simp only [List.cons_append, List.nil_append] at hs
  refine To.run 9 ?_
  refine To.one (One.load 0 (t := 104) (off := 0) (v := Value.chan (some c)) hs rfl (by kernel_rfl) (by kernel_rfl) ?_)
  refine To.one (One.chcap 1 (ch := c) (cap := cap) (xs := xs) (t := 104) (ty := 3) hs rfl (by kernel_rfl) (by kernel_rfl) ?_)
  refine To.run 2 ?_
  refine To.retv Try.func64 (by kernel_rfl) (v := Value.int IntKind.i64 (↑cap : Int)) (by kernel_rfl) ?_
  exact ⟨_, _, rfl, ⟨rfl, rfl⟩, hs⟩


theorem DrainS_loop (b c cap : Nat) (E : World) (L : List Res) : ∀ (zs acc : List ByteArray) (z : ByteArray) (a : Option Addr) (p : Nat) (j : Nat → Value) (w : World), acc.length + zs.length ≤ 1000 →
    Sat E w (cel b 106 [.chan (some c)] :: chn c cap (zs.map (Value.string)) :: row a p 9 (acc.map (Value.string)) :: L) →
    To Try.prog 27 (Cfg.here Try.f27 4 j [(0, .pointer (some ⟨b, 0, none⟩)), (3, .slice a acc.length p), (4, Value.string z), (5, .bool true)]) w
      (Fins E L fun v l => ∃ s p, v = .slice s (acc.length + 1 + zs.length) p ∧ l = [cel b 106 [.chan (some c)], chn c cap [], row s p 9 ((acc ++ z :: zs).map (Value.string))]) := by
  intro zs
  induction zs with
  | nil =>
    intro acc z a p j w hlen hs
    simp only [List.map_nil, List.length_nil, Nat.add_zero] at hs hlen ⊢
    refine To.run 12 ?_
    refine To.one (One.slit (t := 42) (n := 1) (parts := [(0, Value.string z)]) 9 [Value.string z] hs (by kernel_rfl) (by kernel_rfl) fun b1 w1 hs1 => ?_)
    clear hs
    refine To.one (One.appRow 3 (t := 42) (ty := 42) (e := 9) (by_ := 16) (a := a) (cap := p) (m := 1) (cp := 1) (n := acc.length) (xs := List.map Value.string acc) (news := [Value.string z]) (b := b1) (off := 0) hs1 rfl (by kernel_rfl) (by first | rfl | (simp; done)) (by kernel_rfl) (by first | rfl | (simp; done)) (fun j u hj => cell_row hs1 0 rfl hj) (by kernel_rfl) (by first | omega | (simp; omega)) (by first | omega | (simp; omega)) fun a1 cap1 w2 hs2 => ?_)
    simp only [List.set_cons_zero, List.set_cons_succ] at hs2
    clear hs1
    replace hs2 := Sat.selDrop hs2 4 [1, 2, 3] (by decide) (by decide)
    simp only [pickAll, List.filterMap_cons, List.filterMap_nil, List.getElem?_cons_zero, List.getElem?_cons_succ, List.cons_append, List.nil_append, List.drop_succ_cons, List.drop_zero] at hs2
    refine To.run 5 ?_
    refine To.one (One.call 3 [0, 1] [2] (g := 26) (args := [Value.pointer (some { block := b, off := 0 })]) (by kernel_rfl) hs2 (TakeS_none (b) (c) (cap)) (by decide) rfl ?_)
    rintro _ _ w3 ⟨rfl, rfl⟩ hs1
    simp only [pickAll, List.filterMap_cons, List.filterMap_nil, List.getElem?_cons_zero, List.getElem?_cons_succ, List.cons_append, List.nil_append, List.drop_succ_cons, List.drop_zero] at hs1
    clear hs2
    refine To.run 6 ?_
    refine To.run 1 ?_
    refine To.run 12 ?_
    refine To.retv Try.func27 (by kernel_rfl) (v := Value.slice a1 (List.map Value.string acc ++ [Value.string z]).length cap1) (by kernel_rfl) ?_
    exact ⟨_, _, rfl, ⟨a1, cap1, by simp, rfl⟩, by simpa using hs1⟩
  | cons y zs ih =>
    intro acc z a p j w hlen hs
    simp only [List.map_cons, List.length_cons] at hs hlen ⊢
    refine To.run 12 ?_
    refine To.one (One.slit (t := 42) (n := 1) (parts := [(0, Value.string z)]) 9 [Value.string z] hs (by kernel_rfl) (by kernel_rfl) fun b1 w1 hs1 => ?_)
    clear hs
    refine To.one (One.appRow 3 (t := 42) (ty := 42) (e := 9) (by_ := 16) (a := a) (cap := p) (m := 1) (cp := 1) (n := acc.length) (xs := List.map Value.string acc) (news := [Value.string z]) (b := b1) (off := 0) hs1 rfl (by kernel_rfl) (by first | rfl | (simp; done)) (by kernel_rfl) (by first | rfl | (simp; done)) (fun j u hj => cell_row hs1 0 rfl hj) (by kernel_rfl) (by first | omega | (simp; omega)) (by first | omega | (simp; omega)) fun a1 cap1 w2 hs2 => ?_)
    simp only [List.set_cons_zero, List.set_cons_succ] at hs2
    clear hs1
    replace hs2 := Sat.selDrop hs2 4 [1, 2, 3] (by decide) (by decide)
    simp only [pickAll, List.filterMap_cons, List.filterMap_nil, List.getElem?_cons_zero, List.getElem?_cons_succ, List.cons_append, List.nil_append, List.drop_succ_cons, List.drop_zero] at hs2
    refine To.run 5 ?_
    refine To.one (One.call 3 [0, 1] [2] (g := 26) (args := [Value.pointer (some { block := b, off := 0 })]) (by kernel_rfl) hs2 (TakeS_some (b) (c) (cap) (Value.string y) (List.map Value.string zs)) (by decide) rfl ?_)
    rintro _ _ w3 ⟨rfl, rfl⟩ hs1
    simp only [pickAll, List.filterMap_cons, List.filterMap_nil, List.getElem?_cons_zero, List.getElem?_cons_succ, List.cons_append, List.nil_append, List.drop_succ_cons, List.drop_zero] at hs1
    clear hs2
    refine To.run 6 ?_
    refine To.run 1 ?_
    refine To.at (fn := Try.f27) (n := 4) (l := [(0, Value.pointer (some { block := b, off := 0 })), (3, Value.slice a1 (List.map Value.string acc ++ [Value.string z]).length cap1), (4, Value.string y), (5, Value.bool true)]) (by kernel_rfl) fun j => ?_
    have := ih (acc ++ [z]) y a1 cap1 j w3 (by simp; omega) (by simpa using hs1)
    simpa [Nat.add_assoc, Nat.add_comm, Nat.add_left_comm] using this

theorem DrainS_ok (b c cap : Nat) (zs : List ByteArray) (hz : zs.length ≤ 1000) : Trip Try.prog 27 [.pointer (some ⟨b, 0, none⟩)] [cel b 106 [.chan (some c)], chn c cap (zs.map (Value.string))] (fun v l => ∃ s p, v = .slice s zs.length p ∧ l = [cel b 106 [.chan (some c)], chn c cap [], row s p 9 (zs.map (Value.string))]) := by
  refine Trip.of Try.func27 (by kernel_rfl) fun E w L hs => ?_
  cases zs with
  | nil =>
    simp only [List.map_nil] at hs ⊢
    simp only [List.cons_append, List.nil_append] at hs
    refine To.run 12 ?_
    refine To.one (One.call 2 [0, 1] [] (g := 26) (args := [Value.pointer (some { block := b, off := 0 })]) (by kernel_rfl) hs (TakeS_none (b) (c) (cap)) (by decide) rfl ?_)
    rintro _ _ w1 ⟨rfl, rfl⟩ hs1
    simp only [pickAll, List.filterMap_cons, List.filterMap_nil, List.getElem?_cons_zero, List.getElem?_cons_succ, List.cons_append, List.nil_append, List.drop_succ_cons, List.drop_zero] at hs1
    clear hs
    refine To.run 7 ?_
    refine To.run 1 ?_
    refine To.run 12 ?_
    refine To.retv Try.func27 (by kernel_rfl) (v := Value.slice none 0 0) (by kernel_rfl) ?_
    exact ⟨_, _, rfl, ⟨_, _, rfl, rfl⟩, hs1.rowNil 2⟩
  | cons x xs =>
    simp only [List.map_cons, List.length_cons] at hs hz ⊢
    simp only [List.cons_append, List.nil_append] at hs
    refine To.run 12 ?_
    refine To.one (One.call 2 [0, 1] [] (g := 26) (args := [Value.pointer (some { block := b, off := 0 })]) (by kernel_rfl) hs (TakeS_some (b) (c) (cap) (Value.string x) (List.map Value.string xs)) (by decide) rfl ?_)
    rintro _ _ w1 ⟨rfl, rfl⟩ hs1
    simp only [pickAll, List.filterMap_cons, List.filterMap_nil, List.getElem?_cons_zero, List.getElem?_cons_succ, List.cons_append, List.nil_append, List.drop_succ_cons, List.drop_zero] at hs1
    clear hs
    refine To.run 7 ?_
    refine To.run 1 ?_
    refine To.at (fn := Try.f27) (n := 4) (l := [(0, Value.pointer (some { block := b, off := 0 })), (3, Value.slice none 0 0), (4, Value.string x), (5, Value.bool true)]) (by kernel_rfl) fun j => ?_
    have := DrainS_loop b c cap E L xs [] x none 0 j w1 (by simp; omega) (hs1.rowNil 2)
    simpa [Nat.add_comm] using this


theorem NewU_bad (room : Int) (h : room < 1 ∨ 16 < room) : Trip Try.prog 28 [.int .i64 room] [] (fun v l => v = .tuple #[.pointer none, .int .i64 1] ∧ l = []) := by
  refine Trip.of Try.func28 (by kernel_rfl) fun E w L hs => ?_
  rcases h with h | h
  · simp only [List.cons_append, List.nil_append] at hs
    refine To.run 11 ?_
    refine To.isTrue 6 (t := decide (room < 1)) (by kernel_rfl) (by (simp; omega)) ?_
    refine To.run 10 ?_
    refine To.retv Try.func28 (by kernel_rfl) (v := Value.tuple #[Value.pointer none, Value.int IntKind.i64 1]) (by kernel_rfl) ?_
    exact ⟨_, _, rfl, ⟨rfl, rfl⟩, hs⟩
  · simp only [List.cons_append, List.nil_append] at hs
    refine To.run 11 ?_
    refine To.isFalse 6 (t := decide (room < 1)) (by kernel_rfl) (by (simp; omega)) ?_
    refine To.run 4 ?_
    refine To.isTrue 9 (t := decide (room > 16)) (by kernel_rfl) (by (simp; omega)) ?_
    refine To.run 6 ?_
    refine To.retv Try.func28 (by kernel_rfl) (v := Value.tuple #[Value.pointer none, Value.int IntKind.i64 1]) (by kernel_rfl) ?_
    exact ⟨_, _, rfl, ⟨rfl, rfl⟩, hs⟩

theorem NewU_ok (room : Int) (h1 : 1 ≤ room) (h2 : room ≤ 16) : Trip Try.prog 28 [.int .i64 room] [] (fun v l => ∃ b c, v = .tuple #[.pointer (some ⟨b, 0, none⟩), .int .i64 0] ∧ l = [cel b 109 [.chan (some c)], chn c room.toNat []]) := by
  refine Trip.of Try.func28 (by kernel_rfl) fun E w L hs => ?_
  simp only [List.cons_append, List.nil_append] at hs
  refine To.run 11 ?_
  refine To.isFalse 6 (t := decide (room < 1)) (by kernel_rfl) (by (simp; omega)) ?_
  refine To.run 4 ?_
  refine To.isFalse 9 (t := decide (room > 16)) (by kernel_rfl) (by (simp; omega)) ?_
  refine To.run 5 ?_
  refine To.one (One.mkc (t := 107) (n := room.toNat) (by_ := 8) (kd := IntKind.i64) (m := room) hs (by kernel_rfl) (by omega) (by kernel_rfl) (by omega) (by omega) fun b1 w1 hs1 => ?_)
  clear hs
  refine To.run 1 ?_
  refine To.one (One.box (t := 109) (v := Value.agg #[Value.chan (some b1)]) [Value.chan (some b1)] hs1 (by kernel_rfl) (by kernel_rfl) fun b2 w2 hs2 => ?_)
  clear hs1
  refine To.run 3 ?_
  refine To.retv Try.func28 (by kernel_rfl) (v := Value.tuple #[Value.pointer (some { block := b2, off := 0 }), Value.int IntKind.i64 0]) (by kernel_rfl) ?_
  exact ⟨_, _, rfl, ⟨_, _, rfl, rfl⟩, hs2⟩

theorem PutU_room (b c cap : Nat) (xs : List Value) (x : Value) (h : xs.length < cap) : Trip Try.prog 30 [.pointer (some ⟨b, 0, none⟩), x] [cel b 109 [.chan (some c)], chn c cap xs] (fun v l => v = .bool true ∧ l = [cel b 109 [.chan (some c)], chn c cap (xs ++ [x])]) := by
  refine Trip.of Try.func30 (by kernel_rfl) fun E w L hs => ?_
  simp only [List.cons_append, List.nil_append] at hs
  refine To.run 10 ?_
  refine To.one (One.load 0 (t := 107) (off := 0) (v := Value.chan (some c)) hs rfl (by kernel_rfl) (by kernel_rfl) ?_)
  refine To.run 6 ?_
  refine To.send_room 1 (ch := c) (cap := cap) (xs := xs) (v := x) (z := Value.int IntKind.u64 0) (el := 56) hs rfl (by kernel_rfl) (by kernel_rfl) (by assumption) fun w1 hs1 => ?_
  simp only [List.set_cons_zero, List.set_cons_succ] at hs1
  clear hs
  refine To.run 9 ?_
  refine To.retv Try.func30 (by kernel_rfl) (v := Value.bool true) (by kernel_rfl) ?_
  exact ⟨_, _, rfl, ⟨rfl, rfl⟩, hs1⟩

theorem PutU_full (b c cap : Nat) (xs : List Value) (x : Value) (h : cap ≤ xs.length) : Trip Try.prog 30 [.pointer (some ⟨b, 0, none⟩), x] [cel b 109 [.chan (some c)], chn c cap xs] (fun v l => v = .bool false ∧ l = [cel b 109 [.chan (some c)], chn c cap xs]) := by
  refine Trip.of Try.func30 (by kernel_rfl) fun E w L hs => ?_
  simp only [List.cons_append, List.nil_append] at hs
  refine To.run 10 ?_
  refine To.one (One.load 0 (t := 107) (off := 0) (v := Value.chan (some c)) hs rfl (by kernel_rfl) (by kernel_rfl) ?_)
  refine To.run 6 ?_
  refine To.send_full 1 (ch := c) (cap := cap) (xs := xs) (v := x) (z := Value.int IntKind.u64 0) (el := 56) hs rfl (by kernel_rfl) (by kernel_rfl) (by assumption) ?_
  refine To.run 9 ?_
  refine To.retv Try.func30 (by kernel_rfl) (v := Value.bool false) (by kernel_rfl) ?_
  exact ⟨_, _, rfl, ⟨rfl, rfl⟩, hs⟩

theorem TakeU_some (b c cap : Nat) (x : Value) (xs : List Value) : Trip Try.prog 32 [.pointer (some ⟨b, 0, none⟩)] [cel b 109 [.chan (some c)], chn c cap (x :: xs)] (fun v l => v = .tuple #[x, .bool true] ∧ l = [cel b 109 [.chan (some c)], chn c cap xs]) := by
  refine Trip.of Try.func32 (by kernel_rfl) fun E w L hs => ?_
  simp only [List.cons_append, List.nil_append] at hs
  refine To.run 10 ?_
  refine To.one (One.load 0 (t := 107) (off := 0) (v := Value.chan (some c)) hs rfl (by kernel_rfl) (by kernel_rfl) ?_)
  refine To.run 3 ?_
  refine To.recv_some 1 (ch := c) (cap := cap) (xs := xs) (v := x) (z := Value.int IntKind.u64 0) (el := 56) hs rfl (by kernel_rfl) (by kernel_rfl) fun w1 hs1 => ?_
  simp only [List.set_cons_zero, List.set_cons_succ] at hs1
  clear hs
  refine To.run 16 ?_
  refine To.retv Try.func32 (by kernel_rfl) (v := Value.tuple #[x, Value.bool true]) (by kernel_rfl) ?_
  exact ⟨_, _, rfl, ⟨rfl, rfl⟩, hs1⟩

theorem TakeU_none (b c cap : Nat) : Trip Try.prog 32 [.pointer (some ⟨b, 0, none⟩)] [cel b 109 [.chan (some c)], chn c cap []] (fun v l => v = .tuple #[Value.int .u64 0, .bool false] ∧ l = [cel b 109 [.chan (some c)], chn c cap []]) := by
  refine Trip.of Try.func32 (by kernel_rfl) fun E w L hs => ?_
  simp only [List.cons_append, List.nil_append] at hs
  refine To.run 10 ?_
  refine To.one (One.load 0 (t := 107) (off := 0) (v := Value.chan (some c)) hs rfl (by kernel_rfl) (by kernel_rfl) ?_)
  refine To.run 3 ?_
  refine To.recv_none 1 (ch := c) (cap := cap) (z := Value.int IntKind.u64 0) (el := 56) hs rfl (by kernel_rfl) (by kernel_rfl) ?_
  refine To.run 11 ?_
  refine To.retv Try.func32 (by kernel_rfl) (v := Value.tuple #[Value.int IntKind.u64 0, Value.bool false]) (by kernel_rfl) ?_
  exact ⟨_, _, rfl, ⟨rfl, rfl⟩, hs⟩


theorem NewB_bad (room : Int) (h : room < 1 ∨ 16 < room) : Trip Try.prog 29 [.int .i64 room] [] (fun v l => v = .tuple #[.pointer none, .int .i64 1] ∧ l = []) := by
  refine Trip.of Try.func29 (by kernel_rfl) fun E w L hs => ?_
  rcases h with h | h
  · simp only [List.cons_append, List.nil_append] at hs
    refine To.run 11 ?_
    refine To.isTrue 6 (t := decide (room < 1)) (by kernel_rfl) (by (simp; omega)) ?_
    refine To.run 10 ?_
    refine To.retv Try.func29 (by kernel_rfl) (v := Value.tuple #[Value.pointer none, Value.int IntKind.i64 1]) (by kernel_rfl) ?_
    exact ⟨_, _, rfl, ⟨rfl, rfl⟩, hs⟩
  · simp only [List.cons_append, List.nil_append] at hs
    refine To.run 11 ?_
    refine To.isFalse 6 (t := decide (room < 1)) (by kernel_rfl) (by (simp; omega)) ?_
    refine To.run 4 ?_
    refine To.isTrue 9 (t := decide (room > 16)) (by kernel_rfl) (by (simp; omega)) ?_
    refine To.run 6 ?_
    refine To.retv Try.func29 (by kernel_rfl) (v := Value.tuple #[Value.pointer none, Value.int IntKind.i64 1]) (by kernel_rfl) ?_
    exact ⟨_, _, rfl, ⟨rfl, rfl⟩, hs⟩

theorem NewB_ok (room : Int) (h1 : 1 ≤ room) (h2 : room ≤ 16) : Trip Try.prog 29 [.int .i64 room] [] (fun v l => ∃ b c, v = .tuple #[.pointer (some ⟨b, 0, none⟩), .int .i64 0] ∧ l = [cel b 112 [.chan (some c)], chn c room.toNat []]) := by
  refine Trip.of Try.func29 (by kernel_rfl) fun E w L hs => ?_
  simp only [List.cons_append, List.nil_append] at hs
  refine To.run 11 ?_
  refine To.isFalse 6 (t := decide (room < 1)) (by kernel_rfl) (by (simp; omega)) ?_
  refine To.run 4 ?_
  refine To.isFalse 9 (t := decide (room > 16)) (by kernel_rfl) (by (simp; omega)) ?_
  refine To.run 5 ?_
  refine To.one (One.mkc (t := 110) (n := room.toNat) (by_ := 1) (kd := IntKind.i64) (m := room) hs (by kernel_rfl) (by omega) (by kernel_rfl) (by omega) (by omega) fun b1 w1 hs1 => ?_)
  clear hs
  refine To.run 1 ?_
  refine To.one (One.box (t := 112) (v := Value.agg #[Value.chan (some b1)]) [Value.chan (some b1)] hs1 (by kernel_rfl) (by kernel_rfl) fun b2 w2 hs2 => ?_)
  clear hs1
  refine To.run 3 ?_
  refine To.retv Try.func29 (by kernel_rfl) (v := Value.tuple #[Value.pointer (some { block := b2, off := 0 }), Value.int IntKind.i64 0]) (by kernel_rfl) ?_
  exact ⟨_, _, rfl, ⟨_, _, rfl, rfl⟩, hs2⟩

theorem PutB_room (b c cap : Nat) (xs : List Value) (x : Value) (h : xs.length < cap) : Trip Try.prog 31 [.pointer (some ⟨b, 0, none⟩), x] [cel b 112 [.chan (some c)], chn c cap xs] (fun v l => v = .bool true ∧ l = [cel b 112 [.chan (some c)], chn c cap (xs ++ [x])]) := by
  refine Trip.of Try.func31 (by kernel_rfl) fun E w L hs => ?_
  simp only [List.cons_append, List.nil_append] at hs
  refine To.run 10 ?_
  refine To.one (One.load 0 (t := 110) (off := 0) (v := Value.chan (some c)) hs rfl (by kernel_rfl) (by kernel_rfl) ?_)
  refine To.run 6 ?_
  refine To.send_room 1 (ch := c) (cap := cap) (xs := xs) (v := x) (z := Value.bool false) (el := 4) hs rfl (by kernel_rfl) (by kernel_rfl) (by assumption) fun w1 hs1 => ?_
  simp only [List.set_cons_zero, List.set_cons_succ] at hs1
  clear hs
  refine To.run 9 ?_
  refine To.retv Try.func31 (by kernel_rfl) (v := Value.bool true) (by kernel_rfl) ?_
  exact ⟨_, _, rfl, ⟨rfl, rfl⟩, hs1⟩

theorem PutB_full (b c cap : Nat) (xs : List Value) (x : Value) (h : cap ≤ xs.length) : Trip Try.prog 31 [.pointer (some ⟨b, 0, none⟩), x] [cel b 112 [.chan (some c)], chn c cap xs] (fun v l => v = .bool false ∧ l = [cel b 112 [.chan (some c)], chn c cap xs]) := by
  refine Trip.of Try.func31 (by kernel_rfl) fun E w L hs => ?_
  simp only [List.cons_append, List.nil_append] at hs
  refine To.run 10 ?_
  refine To.one (One.load 0 (t := 110) (off := 0) (v := Value.chan (some c)) hs rfl (by kernel_rfl) (by kernel_rfl) ?_)
  refine To.run 6 ?_
  refine To.send_full 1 (ch := c) (cap := cap) (xs := xs) (v := x) (z := Value.bool false) (el := 4) hs rfl (by kernel_rfl) (by kernel_rfl) (by assumption) ?_
  refine To.run 9 ?_
  refine To.retv Try.func31 (by kernel_rfl) (v := Value.bool false) (by kernel_rfl) ?_
  exact ⟨_, _, rfl, ⟨rfl, rfl⟩, hs⟩

theorem TakeB_some (b c cap : Nat) (x : Value) (xs : List Value) : Trip Try.prog 33 [.pointer (some ⟨b, 0, none⟩)] [cel b 112 [.chan (some c)], chn c cap (x :: xs)] (fun v l => v = .tuple #[x, .bool true] ∧ l = [cel b 112 [.chan (some c)], chn c cap xs]) := by
  refine Trip.of Try.func33 (by kernel_rfl) fun E w L hs => ?_
  simp only [List.cons_append, List.nil_append] at hs
  refine To.run 10 ?_
  refine To.one (One.load 0 (t := 110) (off := 0) (v := Value.chan (some c)) hs rfl (by kernel_rfl) (by kernel_rfl) ?_)
  refine To.run 3 ?_
  refine To.recv_some 1 (ch := c) (cap := cap) (xs := xs) (v := x) (z := Value.bool false) (el := 4) hs rfl (by kernel_rfl) (by kernel_rfl) fun w1 hs1 => ?_
  simp only [List.set_cons_zero, List.set_cons_succ] at hs1
  clear hs
  refine To.run 16 ?_
  refine To.retv Try.func33 (by kernel_rfl) (v := Value.tuple #[x, Value.bool true]) (by kernel_rfl) ?_
  exact ⟨_, _, rfl, ⟨rfl, rfl⟩, hs1⟩

theorem TakeB_none (b c cap : Nat) : Trip Try.prog 33 [.pointer (some ⟨b, 0, none⟩)] [cel b 112 [.chan (some c)], chn c cap []] (fun v l => v = .tuple #[Value.bool false, .bool false] ∧ l = [cel b 112 [.chan (some c)], chn c cap []]) := by
  refine Trip.of Try.func33 (by kernel_rfl) fun E w L hs => ?_
  simp only [List.cons_append, List.nil_append] at hs
  refine To.run 10 ?_
  refine To.one (One.load 0 (t := 110) (off := 0) (v := Value.chan (some c)) hs rfl (by kernel_rfl) (by kernel_rfl) ?_)
  refine To.run 3 ?_
  refine To.recv_none 1 (ch := c) (cap := cap) (z := Value.bool false) (el := 4) hs rfl (by kernel_rfl) (by kernel_rfl) ?_
  refine To.run 11 ?_
  refine To.retv Try.func33 (by kernel_rfl) (v := Value.tuple #[Value.bool false, Value.bool false]) (by kernel_rfl) ?_
  exact ⟨_, _, rfl, ⟨rfl, rfl⟩, hs⟩


theorem NewH_bad (room : Int) (h : room < 1 ∨ 16 < room) : Trip Try.prog 34 [.int .i64 room] [] (fun v l => v = .tuple #[.pointer none, .int .i64 1] ∧ l = []) := by
  refine Trip.of Try.func34 (by kernel_rfl) fun E w L hs => ?_
  rcases h with h | h
  · simp only [List.cons_append, List.nil_append] at hs
    refine To.run 11 ?_
    refine To.isTrue 6 (t := decide (room < 1)) (by kernel_rfl) (by (simp; omega)) ?_
    refine To.run 10 ?_
    refine To.retv Try.func34 (by kernel_rfl) (v := Value.tuple #[Value.pointer none, Value.int IntKind.i64 1]) (by kernel_rfl) ?_
    exact ⟨_, _, rfl, ⟨rfl, rfl⟩, hs⟩
  · simp only [List.cons_append, List.nil_append] at hs
    refine To.run 11 ?_
    refine To.isFalse 6 (t := decide (room < 1)) (by kernel_rfl) (by (simp; omega)) ?_
    refine To.run 4 ?_
    refine To.isTrue 9 (t := decide (room > 16)) (by kernel_rfl) (by (simp; omega)) ?_
    refine To.run 6 ?_
    refine To.retv Try.func34 (by kernel_rfl) (v := Value.tuple #[Value.pointer none, Value.int IntKind.i64 1]) (by kernel_rfl) ?_
    exact ⟨_, _, rfl, ⟨rfl, rfl⟩, hs⟩

theorem NewH_ok (room : Int) (h1 : 1 ≤ room) (h2 : room ≤ 16) : Trip Try.prog 34 [.int .i64 room] [] (fun v l => ∃ b c, v = .tuple #[.pointer (some ⟨b, 0, none⟩), .int .i64 0] ∧ l = [cel b 115 [.chan (some c)], chn c room.toNat []]) := by
  refine Trip.of Try.func34 (by kernel_rfl) fun E w L hs => ?_
  simp only [List.cons_append, List.nil_append] at hs
  refine To.run 11 ?_
  refine To.isFalse 6 (t := decide (room < 1)) (by kernel_rfl) (by (simp; omega)) ?_
  refine To.run 4 ?_
  refine To.isFalse 9 (t := decide (room > 16)) (by kernel_rfl) (by (simp; omega)) ?_
  refine To.run 5 ?_
  refine To.one (One.mkc (t := 113) (n := room.toNat) (by_ := 2) (kd := IntKind.i64) (m := room) hs (by kernel_rfl) (by omega) (by kernel_rfl) (by omega) (by omega) fun b1 w1 hs1 => ?_)
  clear hs
  refine To.run 1 ?_
  refine To.one (One.box (t := 115) (v := Value.agg #[Value.chan (some b1)]) [Value.chan (some b1)] hs1 (by kernel_rfl) (by kernel_rfl) fun b2 w2 hs2 => ?_)
  clear hs1
  refine To.run 3 ?_
  refine To.retv Try.func34 (by kernel_rfl) (v := Value.tuple #[Value.pointer (some { block := b2, off := 0 }), Value.int IntKind.i64 0]) (by kernel_rfl) ?_
  exact ⟨_, _, rfl, ⟨_, _, rfl, rfl⟩, hs2⟩

theorem PutH_room (b c cap : Nat) (xs : List Value) (x : Value) (h : xs.length < cap) : Trip Try.prog 35 [.pointer (some ⟨b, 0, none⟩), x] [cel b 115 [.chan (some c)], chn c cap xs] (fun v l => v = .bool true ∧ l = [cel b 115 [.chan (some c)], chn c cap (xs ++ [x])]) := by
  refine Trip.of Try.func35 (by kernel_rfl) fun E w L hs => ?_
  simp only [List.cons_append, List.nil_append] at hs
  refine To.run 10 ?_
  refine To.one (One.load 0 (t := 113) (off := 0) (v := Value.chan (some c)) hs rfl (by kernel_rfl) (by kernel_rfl) ?_)
  refine To.run 6 ?_
  refine To.send_room 1 (ch := c) (cap := cap) (xs := xs) (v := x) (z := Value.int IntKind.u16 0) (el := 71) hs rfl (by kernel_rfl) (by kernel_rfl) (by assumption) fun w1 hs1 => ?_
  simp only [List.set_cons_zero, List.set_cons_succ] at hs1
  clear hs
  refine To.run 9 ?_
  refine To.retv Try.func35 (by kernel_rfl) (v := Value.bool true) (by kernel_rfl) ?_
  exact ⟨_, _, rfl, ⟨rfl, rfl⟩, hs1⟩

theorem PutH_full (b c cap : Nat) (xs : List Value) (x : Value) (h : cap ≤ xs.length) : Trip Try.prog 35 [.pointer (some ⟨b, 0, none⟩), x] [cel b 115 [.chan (some c)], chn c cap xs] (fun v l => v = .bool false ∧ l = [cel b 115 [.chan (some c)], chn c cap xs]) := by
  refine Trip.of Try.func35 (by kernel_rfl) fun E w L hs => ?_
  simp only [List.cons_append, List.nil_append] at hs
  refine To.run 10 ?_
  refine To.one (One.load 0 (t := 113) (off := 0) (v := Value.chan (some c)) hs rfl (by kernel_rfl) (by kernel_rfl) ?_)
  refine To.run 6 ?_
  refine To.send_full 1 (ch := c) (cap := cap) (xs := xs) (v := x) (z := Value.int IntKind.u16 0) (el := 71) hs rfl (by kernel_rfl) (by kernel_rfl) (by assumption) ?_
  refine To.run 9 ?_
  refine To.retv Try.func35 (by kernel_rfl) (v := Value.bool false) (by kernel_rfl) ?_
  exact ⟨_, _, rfl, ⟨rfl, rfl⟩, hs⟩

theorem TakeH_some (b c cap : Nat) (x : Value) (xs : List Value) : Trip Try.prog 36 [.pointer (some ⟨b, 0, none⟩)] [cel b 115 [.chan (some c)], chn c cap (x :: xs)] (fun v l => v = .tuple #[x, .bool true] ∧ l = [cel b 115 [.chan (some c)], chn c cap xs]) := by
  refine Trip.of Try.func36 (by kernel_rfl) fun E w L hs => ?_
  simp only [List.cons_append, List.nil_append] at hs
  refine To.run 10 ?_
  refine To.one (One.load 0 (t := 113) (off := 0) (v := Value.chan (some c)) hs rfl (by kernel_rfl) (by kernel_rfl) ?_)
  refine To.run 3 ?_
  refine To.recv_some 1 (ch := c) (cap := cap) (xs := xs) (v := x) (z := Value.int IntKind.u16 0) (el := 71) hs rfl (by kernel_rfl) (by kernel_rfl) fun w1 hs1 => ?_
  simp only [List.set_cons_zero, List.set_cons_succ] at hs1
  clear hs
  refine To.run 16 ?_
  refine To.retv Try.func36 (by kernel_rfl) (v := Value.tuple #[x, Value.bool true]) (by kernel_rfl) ?_
  exact ⟨_, _, rfl, ⟨rfl, rfl⟩, hs1⟩

theorem TakeH_none (b c cap : Nat) : Trip Try.prog 36 [.pointer (some ⟨b, 0, none⟩)] [cel b 115 [.chan (some c)], chn c cap []] (fun v l => v = .tuple #[Value.int .u16 0, .bool false] ∧ l = [cel b 115 [.chan (some c)], chn c cap []]) := by
  refine Trip.of Try.func36 (by kernel_rfl) fun E w L hs => ?_
  simp only [List.cons_append, List.nil_append] at hs
  refine To.run 10 ?_
  refine To.one (One.load 0 (t := 113) (off := 0) (v := Value.chan (some c)) hs rfl (by kernel_rfl) (by kernel_rfl) ?_)
  refine To.run 3 ?_
  refine To.recv_none 1 (ch := c) (cap := cap) (z := Value.int IntKind.u16 0) (el := 71) hs rfl (by kernel_rfl) (by kernel_rfl) ?_
  refine To.run 11 ?_
  refine To.retv Try.func36 (by kernel_rfl) (v := Value.tuple #[Value.int IntKind.u16 0, Value.bool false]) (by kernel_rfl) ?_
  exact ⟨_, _, rfl, ⟨rfl, rfl⟩, hs⟩


theorem LenH_ok (b c cap : Nat) (xs : List Value) : Trip Try.prog 37 [.pointer (some ⟨b, 0, none⟩)] [cel b 115 [.chan (some c)], chn c cap xs] (fun v l => v = .int .i64 xs.length ∧ l = [cel b 115 [.chan (some c)], chn c cap xs]) := by
  refine Trip.of Try.func37 (by kernel_rfl) fun E w L hs => ?_
  simp only [List.cons_append, List.nil_append] at hs
  refine To.run 9 ?_
  refine To.one (One.load 0 (t := 113) (off := 0) (v := Value.chan (some c)) hs rfl (by kernel_rfl) (by kernel_rfl) ?_)
  refine To.one (One.chlen 1 (ch := c) (cap := cap) (xs := xs) (t := 113) (ty := 3) hs rfl (by kernel_rfl) (by kernel_rfl) ?_)
  refine To.run 2 ?_
  refine To.retv Try.func37 (by kernel_rfl) (v := Value.int IntKind.i64 (↑xs.length : Int)) (by kernel_rfl) ?_
  exact ⟨_, _, rfl, ⟨rfl, rfl⟩, hs⟩


theorem RoomH_ok (b c cap : Nat) (xs : List Value) : Trip Try.prog 38 [.pointer (some ⟨b, 0, none⟩)] [cel b 115 [.chan (some c)], chn c cap xs] (fun v l => v = .int .i64 cap ∧ l = [cel b 115 [.chan (some c)], chn c cap xs]) := by
  refine Trip.of Try.func38 (by kernel_rfl) fun E w L hs => ?_
  simp only [List.cons_append, List.nil_append] at hs
  refine To.run 9 ?_
  refine To.one (One.load 0 (t := 113) (off := 0) (v := Value.chan (some c)) hs rfl (by kernel_rfl) (by kernel_rfl) ?_)
  refine To.one (One.chcap 1 (ch := c) (cap := cap) (xs := xs) (t := 113) (ty := 3) hs rfl (by kernel_rfl) (by kernel_rfl) ?_)
  refine To.run 2 ?_
  refine To.retv Try.func38 (by kernel_rfl) (v := Value.int IntKind.i64 (↑cap : Int)) (by kernel_rfl) ?_
  exact ⟨_, _, rfl, ⟨rfl, rfl⟩, hs⟩

end Go.Proofs.Ythojpcfaaiefhaa
