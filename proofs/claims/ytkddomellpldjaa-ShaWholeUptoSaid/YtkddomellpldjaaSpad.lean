import Derived.Test.YtkddomellpldjaaProg
import Derived.Test.YtkddomellpldjaaSxStr
import Derived.Test.YtkddomellpldjaaSspec
set_option linter.unusedSimpArgs false
set_option linter.unusedVariables false
namespace Go.Proofs.Ytkddomellpldjaa
open Go Go.Sx
set_option linter.unusedSimpArgs false
set_option maxHeartbeats 0
set_option maxRecDepth 20000

/-- How many zeros. -/
def padZ (many : Int) : Nat := ((183 - many % 64) % 64).toNat
/-- The byte of eight times many at this place. -/
def padB (many : Int) (sh : Nat) : UInt8 := b8 ((IntKind.u64.wrap (many * 8)).fdiv (2 ^ sh))
def padL (many : Int) : List UInt8 := 128 :: List.replicate (padZ many) 0 ++ [padB many 56, padB many 48, padB many 40, padB many 32, padB many 24, padB many 16, padB many 8, padB many 0]

theorem padZ_lt (many : Int) : padZ many < 64 := by unfold padZ; omega
theorem padZ_val (many : Int) (h0 : 0 ≤ many) : Value.int .i64 ((IntKind.i64.wrap (183 - IntKind.i64.wrap (many.tmod 64))).tmod 64) = Value.int .i64 ((padZ many : Nat) : Int) := by
  unfold padZ
  rw [Int.tmod_eq_emod_of_nonneg h0, wrap_i64 (e := many % 64) (by omega) (by omega), wrap_i64 (e := 183 - many % 64) (by omega) (by omega), Int.tmod_eq_emod_of_nonneg (by omega)]
  congr 1
  omega

theorem snocLen (l : List UInt8) (b : UInt8) (a : Option Addr) (cap : Nat) : Value.slice a (l.map u8V ++ [u8V b]).length cap = Value.slice a (l ++ [b]).length cap := by simp
theorem snoc_row {E w : World} {L : List Res} {a : Option Addr} {cap : Nat} {l l' : List UInt8} {b : UInt8} (h : Sat E w (row a cap 5 (l.map u8V ++ [u8V b]) :: L)) (e : l' = l ++ [b]) : Sat E w (row a cap 5 (l'.map u8V) :: L) := by
  rw [e, List.map_append]; exact h

theorem Pad_ok (many : Int) (h0 : 0 ≤ many) (h1 : many ≤ 18446744073709551615) : Trip Try.prog 16 [.int .u64 many] [] (fun v l => v = .string ⟨(padL many).toArray⟩ ∧ l = []) := by
  refine Trip.of Try.func16 (by kernel_rfl) fun E w L hs => ?_
  simp only [List.nil_append] at hs
  have hz := padZ_lt many
  have hzv := padZ_val many h0
  refine To.run 9 ?_
  refine To.run 1 ?_
  refine To.run 5 ?_
  refine To.one (One.slit (t := 28) (n := 1) (parts := [(0, Value.int IntKind.u8 128)]) 5 [Value.int IntKind.u8 128] hs (by kernel_rfl) (by kernel_rfl) fun b1 w1 hs1 => ?_)
  clear hs
  refine To.run 1 ?_
  refine To.known 12 _ (by kernel_rfl) hzv ?_
  clear hzv
  refine To.one (One.appZ 0 (k := IntKind.i64) (t := 28) (it := 3) (ty := 28) (e := 5) (by_ := 1) (m := padZ many) (b := b1) (vs := [Value.int IntKind.u8 128]) hs1 rfl (by kernel_rfl) (by kernel_rfl) (by kernel_rfl) (Value.int IntKind.u8 0) (by kernel_rfl) (by kernel_rfl) (by omega) (by decide) (by decide) fun a1 cap1 w2 hs2 => ?_)
  simp only [List.eraseIdx_cons_zero, List.eraseIdx_cons_succ] at hs2
  clear hs1
  refine To.run 8 ?_
  obtain ⟨l0, g0⟩ : ∃ l : List UInt8, l = 128 :: List.replicate (padZ many) 0 := ⟨_, rfl⟩
  have n0 : l0.length ≤ 64 := by rw [g0]; simp; omega
  refine To.known 4 (v := .slice a1 (1 + padZ many) cap1) (.slice a1 l0.length cap1) (by kernel_rfl) (by rw [g0]; simp; omega) ?_
  have hs : Sat E w2 (row a1 cap1 5 (l0.map u8V) :: L) := by
    rw [g0, List.map_cons, List.map_replicate]; exact hs2
  clear hs2
  refine To.run 1 ?_
  refine To.at (fn := Try.f16) (n := 5) (l := [(0, Value.int IntKind.u64 many), (4, Value.slice a1 l0.length cap1), (5, Value.int IntKind.i64 56)]) (by kernel_rfl) fun j => ?_
  refine To.run 14 ?_
  refine To.run 3 ?_
  refine To.known 23 _ (by kernel_rfl) (u8_b8 ((IntKind.u64.wrap (many * 8)).fdiv (2 ^ min (Int.toNat 56) IntKind.u64.bits))) ?_
  refine To.one (One.slit (t := 28) (n := 1) (parts := [(0, Value.int IntKind.u8 (↑(b8 ((IntKind.u64.wrap (many * 8)).fdiv (2 ^ min (Int.toNat 56) IntKind.u64.bits))).toNat : Int))]) 5 [Value.int IntKind.u8 (↑(b8 ((IntKind.u64.wrap (many * 8)).fdiv (2 ^ min (Int.toNat 56) IntKind.u64.bits))).toNat : Int)] hs (by kernel_rfl) (by kernel_rfl) fun b2 w3 hs1 => ?_)
  clear hs
  refine To.one (One.appRow 1 (t := 28) (ty := 28) (e := 5) (by_ := 1) (a := a1) (cap := cap1) (m := 1) (cp := 1) (n := l0.length) (xs := List.map u8V l0) (news := [Value.int IntKind.u8 (↑(b8 ((IntKind.u64.wrap (many * 8)).fdiv (2 ^ min (Int.toNat 56) IntKind.u64.bits))).toNat : Int)]) (b := b2) (off := 0) hs1 rfl (by kernel_rfl) (by first | rfl | (simp; done)) (by kernel_rfl) (by first | rfl | (simp; done)) (fun j u hj => cell_row hs1 0 rfl hj) (by kernel_rfl) (by first | omega | (simp; omega)) (by first | omega | (simp; omega)) fun a2 cap2 w4 hs2 => ?_)
  simp only [List.set_cons_zero, List.set_cons_succ] at hs2
  clear hs1
  replace hs2 := Sat.selDrop hs2 2 [1] (by decide) (by decide)
  simp only [pickAll, List.filterMap_cons, List.filterMap_nil, List.getElem?_cons_zero, List.getElem?_cons_succ, List.cons_append, List.nil_append, List.drop_succ_cons, List.drop_zero] at hs2
  refine To.run 8 ?_
  obtain ⟨l1, g1⟩ : ∃ l, l = l0 ++ [padB many 56] := ⟨_, rfl⟩
  refine To.known 4 _ (by kernel_rfl) (snocLen l0 (padB many 56) a2 cap2) ?_
  rw [← g1]
  have hs := snoc_row (b := padB many 56) hs2 g1
  clear hs2
  have n1 : l1.length = l0.length + 1 := by rw [g1]; simp
  refine To.run 1 ?_
  refine To.at (fn := Try.f16) (n := 5) (l := [(0, Value.int IntKind.u64 many), (4, Value.slice a2 l1.length cap2), (5, Value.int IntKind.i64 48)]) (by kernel_rfl) fun j => ?_
  refine To.run 17 ?_
  refine To.known 23 _ (by kernel_rfl) (u8_b8 ((IntKind.u64.wrap (many * 8)).fdiv (2 ^ min (Int.toNat 48) IntKind.u64.bits))) ?_
  refine To.one (One.slit (t := 28) (n := 1) (parts := [(0, Value.int IntKind.u8 (↑(b8 ((IntKind.u64.wrap (many * 8)).fdiv (2 ^ min (Int.toNat 48) IntKind.u64.bits))).toNat : Int))]) 5 [Value.int IntKind.u8 (↑(b8 ((IntKind.u64.wrap (many * 8)).fdiv (2 ^ min (Int.toNat 48) IntKind.u64.bits))).toNat : Int)] hs (by kernel_rfl) (by kernel_rfl) fun b3 w5 hs1 => ?_)
  clear hs
  refine To.one (One.appRow 1 (t := 28) (ty := 28) (e := 5) (by_ := 1) (a := a2) (cap := cap2) (m := 1) (cp := 1) (n := l1.length) (xs := List.map u8V l1) (news := [Value.int IntKind.u8 (↑(b8 ((IntKind.u64.wrap (many * 8)).fdiv (2 ^ min (Int.toNat 48) IntKind.u64.bits))).toNat : Int)]) (b := b3) (off := 0) hs1 rfl (by kernel_rfl) (by first | rfl | (simp; done)) (by kernel_rfl) (by first | rfl | (simp; done)) (fun j u hj => cell_row hs1 0 rfl hj) (by kernel_rfl) (by first | omega | (simp; omega)) (by first | omega | (simp; omega)) fun a3 cap3 w6 hs2 => ?_)
  simp only [List.set_cons_zero, List.set_cons_succ] at hs2
  clear hs1
  replace hs2 := Sat.selDrop hs2 2 [1] (by decide) (by decide)
  simp only [pickAll, List.filterMap_cons, List.filterMap_nil, List.getElem?_cons_zero, List.getElem?_cons_succ, List.cons_append, List.nil_append, List.drop_succ_cons, List.drop_zero] at hs2
  refine To.run 8 ?_
  obtain ⟨l2, g2⟩ : ∃ l, l = l1 ++ [padB many 48] := ⟨_, rfl⟩
  refine To.known 4 _ (by kernel_rfl) (snocLen l1 (padB many 48) a3 cap3) ?_
  rw [← g2]
  have hs := snoc_row (b := padB many 48) hs2 g2
  clear hs2
  have n2 : l2.length = l1.length + 1 := by rw [g2]; simp
  refine To.run 1 ?_
  refine To.at (fn := Try.f16) (n := 5) (l := [(0, Value.int IntKind.u64 many), (4, Value.slice a3 l2.length cap3), (5, Value.int IntKind.i64 40)]) (by kernel_rfl) fun j => ?_
  refine To.run 17 ?_
  refine To.known 23 _ (by kernel_rfl) (u8_b8 ((IntKind.u64.wrap (many * 8)).fdiv (2 ^ min (Int.toNat 40) IntKind.u64.bits))) ?_
  refine To.one (One.slit (t := 28) (n := 1) (parts := [(0, Value.int IntKind.u8 (↑(b8 ((IntKind.u64.wrap (many * 8)).fdiv (2 ^ min (Int.toNat 40) IntKind.u64.bits))).toNat : Int))]) 5 [Value.int IntKind.u8 (↑(b8 ((IntKind.u64.wrap (many * 8)).fdiv (2 ^ min (Int.toNat 40) IntKind.u64.bits))).toNat : Int)] hs (by kernel_rfl) (by kernel_rfl) fun b4 w7 hs1 => ?_)
  clear hs
  refine To.one (One.appRow 1 (t := 28) (ty := 28) (e := 5) (by_ := 1) (a := a3) (cap := cap3) (m := 1) (cp := 1) (n := l2.length) (xs := List.map u8V l2) (news := [Value.int IntKind.u8 (↑(b8 ((IntKind.u64.wrap (many * 8)).fdiv (2 ^ min (Int.toNat 40) IntKind.u64.bits))).toNat : Int)]) (b := b4) (off := 0) hs1 rfl (by kernel_rfl) (by first | rfl | (simp; done)) (by kernel_rfl) (by first | rfl | (simp; done)) (fun j u hj => cell_row hs1 0 rfl hj) (by kernel_rfl) (by first | omega | (simp; omega)) (by first | omega | (simp; omega)) fun a4 cap4 w8 hs2 => ?_)
  simp only [List.set_cons_zero, List.set_cons_succ] at hs2
  clear hs1
  replace hs2 := Sat.selDrop hs2 2 [1] (by decide) (by decide)
  simp only [pickAll, List.filterMap_cons, List.filterMap_nil, List.getElem?_cons_zero, List.getElem?_cons_succ, List.cons_append, List.nil_append, List.drop_succ_cons, List.drop_zero] at hs2
  refine To.run 8 ?_
  obtain ⟨l3, g3⟩ : ∃ l, l = l2 ++ [padB many 40] := ⟨_, rfl⟩
  refine To.known 4 _ (by kernel_rfl) (snocLen l2 (padB many 40) a4 cap4) ?_
  rw [← g3]
  have hs := snoc_row (b := padB many 40) hs2 g3
  clear hs2
  have n3 : l3.length = l2.length + 1 := by rw [g3]; simp
  refine To.run 1 ?_
  refine To.at (fn := Try.f16) (n := 5) (l := [(0, Value.int IntKind.u64 many), (4, Value.slice a4 l3.length cap4), (5, Value.int IntKind.i64 32)]) (by kernel_rfl) fun j => ?_
  refine To.run 17 ?_
  refine To.known 23 _ (by kernel_rfl) (u8_b8 ((IntKind.u64.wrap (many * 8)).fdiv (2 ^ min (Int.toNat 32) IntKind.u64.bits))) ?_
  refine To.one (One.slit (t := 28) (n := 1) (parts := [(0, Value.int IntKind.u8 (↑(b8 ((IntKind.u64.wrap (many * 8)).fdiv (2 ^ min (Int.toNat 32) IntKind.u64.bits))).toNat : Int))]) 5 [Value.int IntKind.u8 (↑(b8 ((IntKind.u64.wrap (many * 8)).fdiv (2 ^ min (Int.toNat 32) IntKind.u64.bits))).toNat : Int)] hs (by kernel_rfl) (by kernel_rfl) fun b5 w9 hs1 => ?_)
  clear hs
  refine To.one (One.appRow 1 (t := 28) (ty := 28) (e := 5) (by_ := 1) (a := a4) (cap := cap4) (m := 1) (cp := 1) (n := l3.length) (xs := List.map u8V l3) (news := [Value.int IntKind.u8 (↑(b8 ((IntKind.u64.wrap (many * 8)).fdiv (2 ^ min (Int.toNat 32) IntKind.u64.bits))).toNat : Int)]) (b := b5) (off := 0) hs1 rfl (by kernel_rfl) (by first | rfl | (simp; done)) (by kernel_rfl) (by first | rfl | (simp; done)) (fun j u hj => cell_row hs1 0 rfl hj) (by kernel_rfl) (by first | omega | (simp; omega)) (by first | omega | (simp; omega)) fun a5 cap5 w10 hs2 => ?_)
  simp only [List.set_cons_zero, List.set_cons_succ] at hs2
  clear hs1
  replace hs2 := Sat.selDrop hs2 2 [1] (by decide) (by decide)
  simp only [pickAll, List.filterMap_cons, List.filterMap_nil, List.getElem?_cons_zero, List.getElem?_cons_succ, List.cons_append, List.nil_append, List.drop_succ_cons, List.drop_zero] at hs2
  refine To.run 8 ?_
  obtain ⟨l4, g4⟩ : ∃ l, l = l3 ++ [padB many 32] := ⟨_, rfl⟩
  refine To.known 4 _ (by kernel_rfl) (snocLen l3 (padB many 32) a5 cap5) ?_
  rw [← g4]
  have hs := snoc_row (b := padB many 32) hs2 g4
  clear hs2
  have n4 : l4.length = l3.length + 1 := by rw [g4]; simp
  refine To.run 1 ?_
  refine To.at (fn := Try.f16) (n := 5) (l := [(0, Value.int IntKind.u64 many), (4, Value.slice a5 l4.length cap5), (5, Value.int IntKind.i64 24)]) (by kernel_rfl) fun j => ?_
  refine To.run 17 ?_
  refine To.known 23 _ (by kernel_rfl) (u8_b8 ((IntKind.u64.wrap (many * 8)).fdiv (2 ^ min (Int.toNat 24) IntKind.u64.bits))) ?_
  refine To.one (One.slit (t := 28) (n := 1) (parts := [(0, Value.int IntKind.u8 (↑(b8 ((IntKind.u64.wrap (many * 8)).fdiv (2 ^ min (Int.toNat 24) IntKind.u64.bits))).toNat : Int))]) 5 [Value.int IntKind.u8 (↑(b8 ((IntKind.u64.wrap (many * 8)).fdiv (2 ^ min (Int.toNat 24) IntKind.u64.bits))).toNat : Int)] hs (by kernel_rfl) (by kernel_rfl) fun b6 w11 hs1 => ?_)
  clear hs
  refine To.one (One.appRow 1 (t := 28) (ty := 28) (e := 5) (by_ := 1) (a := a5) (cap := cap5) (m := 1) (cp := 1) (n := l4.length) (xs := List.map u8V l4) (news := [Value.int IntKind.u8 (↑(b8 ((IntKind.u64.wrap (many * 8)).fdiv (2 ^ min (Int.toNat 24) IntKind.u64.bits))).toNat : Int)]) (b := b6) (off := 0) hs1 rfl (by kernel_rfl) (by first | rfl | (simp; done)) (by kernel_rfl) (by first | rfl | (simp; done)) (fun j u hj => cell_row hs1 0 rfl hj) (by kernel_rfl) (by first | omega | (simp; omega)) (by first | omega | (simp; omega)) fun a6 cap6 w12 hs2 => ?_)
  simp only [List.set_cons_zero, List.set_cons_succ] at hs2
  clear hs1
  replace hs2 := Sat.selDrop hs2 2 [1] (by decide) (by decide)
  simp only [pickAll, List.filterMap_cons, List.filterMap_nil, List.getElem?_cons_zero, List.getElem?_cons_succ, List.cons_append, List.nil_append, List.drop_succ_cons, List.drop_zero] at hs2
  refine To.run 8 ?_
  obtain ⟨l5, g5⟩ : ∃ l, l = l4 ++ [padB many 24] := ⟨_, rfl⟩
  refine To.known 4 _ (by kernel_rfl) (snocLen l4 (padB many 24) a6 cap6) ?_
  rw [← g5]
  have hs := snoc_row (b := padB many 24) hs2 g5
  clear hs2
  have n5 : l5.length = l4.length + 1 := by rw [g5]; simp
  refine To.run 1 ?_
  refine To.at (fn := Try.f16) (n := 5) (l := [(0, Value.int IntKind.u64 many), (4, Value.slice a6 l5.length cap6), (5, Value.int IntKind.i64 16)]) (by kernel_rfl) fun j => ?_
  refine To.run 17 ?_
  refine To.known 23 _ (by kernel_rfl) (u8_b8 ((IntKind.u64.wrap (many * 8)).fdiv (2 ^ min (Int.toNat 16) IntKind.u64.bits))) ?_
  refine To.one (One.slit (t := 28) (n := 1) (parts := [(0, Value.int IntKind.u8 (↑(b8 ((IntKind.u64.wrap (many * 8)).fdiv (2 ^ min (Int.toNat 16) IntKind.u64.bits))).toNat : Int))]) 5 [Value.int IntKind.u8 (↑(b8 ((IntKind.u64.wrap (many * 8)).fdiv (2 ^ min (Int.toNat 16) IntKind.u64.bits))).toNat : Int)] hs (by kernel_rfl) (by kernel_rfl) fun b7 w13 hs1 => ?_)
  clear hs
  refine To.one (One.appRow 1 (t := 28) (ty := 28) (e := 5) (by_ := 1) (a := a6) (cap := cap6) (m := 1) (cp := 1) (n := l5.length) (xs := List.map u8V l5) (news := [Value.int IntKind.u8 (↑(b8 ((IntKind.u64.wrap (many * 8)).fdiv (2 ^ min (Int.toNat 16) IntKind.u64.bits))).toNat : Int)]) (b := b7) (off := 0) hs1 rfl (by kernel_rfl) (by first | rfl | (simp; done)) (by kernel_rfl) (by first | rfl | (simp; done)) (fun j u hj => cell_row hs1 0 rfl hj) (by kernel_rfl) (by first | omega | (simp; omega)) (by first | omega | (simp; omega)) fun a7 cap7 w14 hs2 => ?_)
  simp only [List.set_cons_zero, List.set_cons_succ] at hs2
  clear hs1
  replace hs2 := Sat.selDrop hs2 2 [1] (by decide) (by decide)
  simp only [pickAll, List.filterMap_cons, List.filterMap_nil, List.getElem?_cons_zero, List.getElem?_cons_succ, List.cons_append, List.nil_append, List.drop_succ_cons, List.drop_zero] at hs2
  refine To.run 8 ?_
  obtain ⟨l6, g6⟩ : ∃ l, l = l5 ++ [padB many 16] := ⟨_, rfl⟩
  refine To.known 4 _ (by kernel_rfl) (snocLen l5 (padB many 16) a7 cap7) ?_
  rw [← g6]
  have hs := snoc_row (b := padB many 16) hs2 g6
  clear hs2
  have n6 : l6.length = l5.length + 1 := by rw [g6]; simp
  refine To.run 1 ?_
  refine To.at (fn := Try.f16) (n := 5) (l := [(0, Value.int IntKind.u64 many), (4, Value.slice a7 l6.length cap7), (5, Value.int IntKind.i64 8)]) (by kernel_rfl) fun j => ?_
  refine To.run 17 ?_
  refine To.known 23 _ (by kernel_rfl) (u8_b8 ((IntKind.u64.wrap (many * 8)).fdiv (2 ^ min (Int.toNat 8) IntKind.u64.bits))) ?_
  refine To.one (One.slit (t := 28) (n := 1) (parts := [(0, Value.int IntKind.u8 (↑(b8 ((IntKind.u64.wrap (many * 8)).fdiv (2 ^ min (Int.toNat 8) IntKind.u64.bits))).toNat : Int))]) 5 [Value.int IntKind.u8 (↑(b8 ((IntKind.u64.wrap (many * 8)).fdiv (2 ^ min (Int.toNat 8) IntKind.u64.bits))).toNat : Int)] hs (by kernel_rfl) (by kernel_rfl) fun b8 w15 hs1 => ?_)
  clear hs
  refine To.one (One.appRow 1 (t := 28) (ty := 28) (e := 5) (by_ := 1) (a := a7) (cap := cap7) (m := 1) (cp := 1) (n := l6.length) (xs := List.map u8V l6) (news := [Value.int IntKind.u8 (↑(Sx.b8 ((IntKind.u64.wrap (many * 8)).fdiv (2 ^ min (Int.toNat 8) IntKind.u64.bits))).toNat : Int)]) (b := b8) (off := 0) hs1 rfl (by kernel_rfl) (by first | rfl | (simp; done)) (by kernel_rfl) (by first | rfl | (simp; done)) (fun j u hj => cell_row hs1 0 rfl hj) (by kernel_rfl) (by first | omega | (simp; omega)) (by first | omega | (simp; omega)) fun a8 cap8 w16 hs2 => ?_)
  simp only [List.set_cons_zero, List.set_cons_succ] at hs2
  clear hs1
  replace hs2 := Sat.selDrop hs2 2 [1] (by decide) (by decide)
  simp only [pickAll, List.filterMap_cons, List.filterMap_nil, List.getElem?_cons_zero, List.getElem?_cons_succ, List.cons_append, List.nil_append, List.drop_succ_cons, List.drop_zero] at hs2
  refine To.run 8 ?_
  obtain ⟨l7, g7⟩ : ∃ l, l = l6 ++ [padB many 8] := ⟨_, rfl⟩
  refine To.known 4 _ (by kernel_rfl) (snocLen l6 (padB many 8) a8 cap8) ?_
  rw [← g7]
  have hs := snoc_row (b := padB many 8) hs2 g7
  clear hs2
  have n7 : l7.length = l6.length + 1 := by rw [g7]; simp
  refine To.run 1 ?_
  refine To.at (fn := Try.f16) (n := 5) (l := [(0, Value.int IntKind.u64 many), (4, Value.slice a8 l7.length cap8), (5, Value.int IntKind.i64 0)]) (by kernel_rfl) fun j => ?_
  refine To.run 17 ?_
  refine To.known 23 _ (by kernel_rfl) (u8_b8 ((IntKind.u64.wrap (many * 8)).fdiv (2 ^ min (Int.toNat 0) IntKind.u64.bits))) ?_
  refine To.one (One.slit (t := 28) (n := 1) (parts := [(0, Value.int IntKind.u8 (↑(Sx.b8 ((IntKind.u64.wrap (many * 8)).fdiv (2 ^ min (Int.toNat 0) IntKind.u64.bits))).toNat : Int))]) 5 [Value.int IntKind.u8 (↑(Sx.b8 ((IntKind.u64.wrap (many * 8)).fdiv (2 ^ min (Int.toNat 0) IntKind.u64.bits))).toNat : Int)] hs (by kernel_rfl) (by kernel_rfl) fun b9 w17 hs1 => ?_)
  clear hs
  refine To.one (One.appRow 1 (t := 28) (ty := 28) (e := 5) (by_ := 1) (a := a8) (cap := cap8) (m := 1) (cp := 1) (n := l7.length) (xs := List.map u8V l7) (news := [Value.int IntKind.u8 (↑(Sx.b8 ((IntKind.u64.wrap (many * 8)).fdiv (2 ^ min (Int.toNat 0) IntKind.u64.bits))).toNat : Int)]) (b := b9) (off := 0) hs1 rfl (by kernel_rfl) (by first | rfl | (simp; done)) (by kernel_rfl) (by first | rfl | (simp; done)) (fun j u hj => cell_row hs1 0 rfl hj) (by kernel_rfl) (by first | omega | (simp; omega)) (by first | omega | (simp; omega)) fun a9 cap9 w18 hs2 => ?_)
  simp only [List.set_cons_zero, List.set_cons_succ] at hs2
  clear hs1
  replace hs2 := Sat.selDrop hs2 2 [1] (by decide) (by decide)
  simp only [pickAll, List.filterMap_cons, List.filterMap_nil, List.getElem?_cons_zero, List.getElem?_cons_succ, List.cons_append, List.nil_append, List.drop_succ_cons, List.drop_zero] at hs2
  refine To.run 8 ?_
  obtain ⟨l8, g8⟩ : ∃ l, l = l7 ++ [padB many 0] := ⟨_, rfl⟩
  refine To.known 4 _ (by kernel_rfl) (snocLen l7 (padB many 0) a9 cap9) ?_
  rw [← g8]
  have hs := snoc_row (b := padB many 0) hs2 g8
  clear hs2
  have n8 : l8.length = l7.length + 1 := by rw [g8]; simp
  refine To.run 1 ?_
  refine To.at (fn := Try.f16) (n := 5) (l := [(0, Value.int IntKind.u64 many), (4, Value.slice a9 l8.length cap9), (5, Value.int IntKind.i64 (-8))]) (by kernel_rfl) fun j => ?_
  refine To.run 11 ?_
  refine To.one (One.b2s 0 (src := 28) (dst := 9) (a := a9) (cap := cap9) (n := l8.length) (e := 5) (l8) hs rfl (by kernel_rfl) (by first | rfl | (simp; done)) (by kernel_rfl) (by kernel_rfl) ?_)
  refine To.run 2 ?_
  refine To.retv Try.func16 (by kernel_rfl) (v := Value.string { data := l8.toArray }) (by kernel_rfl) ?_
  have hfin : padL many = l8 := by
    rw [g8, g7, g6, g5, g4, g3, g2, g1, g0]
    simp [padL]
  exact ⟨_, _, rfl, ⟨by rw [hfin], rfl⟩, hs.sub (List.sublist_cons_self _ _)⟩

theorem padStop (many : Int) (h0 : 0 ≤ many) (n : Nat) (hn : n ≤ 64) : ((IntKind.u64.wrap (many + ((n + 1 : Nat) : Int))).tmod 64 != 56) = decide ((many + 1 + n) % 64 ≠ 56) := by
  have h1 : 0 ≤ IntKind.u64.wrap (many + ((n + 1 : Nat) : Int)) := by rw [IntKind.wrap_u64]; omega
  have h2 : (IntKind.u64.wrap (many + ((n + 1 : Nat) : Int))).tmod 64 = (many + 1 + n) % 64 := by
    rw [Int.tmod_eq_emod_of_nonneg h1, IntKind.wrap_u64]
    omega
  rw [h2]
  by_cases h : (many + 1 + n) % 64 = 56
  · simp [h]
  · simp [h, bne_iff_ne]

theorem padZ_is (many : Int) (h0 : 0 ≤ many) (n : Nat) (hn : n ≤ padZ many) : decide ((many + 1 + n) % 64 ≠ 56) = decide (n ≠ padZ many) := by
  have hz := padZ_lt many
  unfold padZ at *
  by_cases h : n = ((183 - many % 64) % 64).toNat
  · have h2 : (many + 1 + n) % 64 = 56 := by omega
    rw [decide_eq_false (by omega), decide_eq_false (by omega)]
  · have h2 : ¬ (many + 1 + n) % 64 = 56 := by omega
    rw [decide_eq_true (by omega), decide_eq_true h]

theorem celRow {E w : World} {L : List Res} {b e : Nat} {vs : List Value} (h : Sat E w (cel b e vs :: L)) (hl : vs.length ≤ 1000) : Sat E w (row (some ⟨b, 0, none⟩) vs.length e vs :: L) := by
  have hok : w.heap[b]? = some (.cells vs.toArray e (0, 0)) := h.ok 0 rfl
  refine h.weak 0 (r' := row (some ⟨b, 0, none⟩) vs.length e vs) rfl (fun _ => ?_) (fun c hc => ?_)
  · unfold row own
    exact ⟨by simp, .inr ⟨b, vs.length, _, rfl, Nat.zero_le _, hok, Nat.le_refl _, by unfold maxLen; omega, by simp, by simp⟩⟩
  · simp [row, own, Value.ownBlock] at hc
    exact hc.symm

theorem RPad_end (E : World) (L : List Res) (many : Int) (h0 : 0 ≤ many) (h1 : many ≤ 18446744073709551615) (l0 : List UInt8) (g0 : l0 = 128 :: List.replicate (padZ many) 0) (a1 : Option Addr) (cap1 : Nat) (j : Nat → Value) (w : World) (hs : Sat E w (row a1 cap1 5 (l0.map u8V) :: L)) :
    To Try.prog 17 (Cfg.here Try.f17 3 j [(0, .int .u64 many), (3, .slice a1 l0.length cap1)]) w (Fins E L (fun v l => v = .string ⟨(padL many).toArray⟩ ∧ l = [])) := by
  have hz := padZ_lt many
  have n0 : l0.length = padZ many + 1 := by rw [g0]; simp
  have hc : ((IntKind.u64.wrap (many + (l0.length : Int))).tmod 64 != 56) = false := by
    have := padStop many h0 (padZ many) (by omega)
    rw [padZ_is many h0 _ (Nat.le_refl _)] at this
    rw [n0, this]
    simp
  refine To.run 7 ?_
  refine To.known 9 (v := .int .u64 (IntKind.u64.wrap ((↑l0.length : Int)))) (.int .u64 ((↑l0.length : Int))) (by kernel_rfl) (by rw [wrap_u64 (by omega) (by omega)]) ?_
  refine To.run 1 ?_
  refine To.run 3 ?_
  refine To.isFalse 12 (t := (IntKind.u64.wrap (many + (↑l0.length : Int))).tmod 64 != 56) (by kernel_rfl) (by assumption) ?_
  refine To.run 8 ?_
  refine To.run 1 ?_
  refine To.at (fn := Try.f17) (n := 8) (l := [(0, Value.int IntKind.u64 many), (3, Value.slice a1 l0.length cap1), (4, Value.int IntKind.i64 7)]) (by kernel_rfl) fun j => ?_
  refine To.run 14 ?_
  refine To.run 4 ?_
  refine To.known 26 _ (by kernel_rfl) (u8_b8 ((IntKind.u64.wrap (many * 8)).fdiv (2 ^ min (Int.toNat 56) IntKind.u64.bits))) ?_
  refine To.one (One.slit (t := 28) (n := 1) (parts := [(0, Value.int IntKind.u8 (↑(b8 ((IntKind.u64.wrap (many * 8)).fdiv (2 ^ min (Int.toNat 56) IntKind.u64.bits))).toNat : Int))]) 5 [Value.int IntKind.u8 (↑(b8 ((IntKind.u64.wrap (many * 8)).fdiv (2 ^ min (Int.toNat 56) IntKind.u64.bits))).toNat : Int)] hs (by kernel_rfl) (by kernel_rfl) fun b1 w1 hs1 => ?_)
  clear hs
  refine To.one (One.appRow 1 (t := 28) (ty := 28) (e := 5) (by_ := 1) (a := a1) (cap := cap1) (m := 1) (cp := 1) (n := l0.length) (xs := List.map u8V l0) (news := [Value.int IntKind.u8 (↑(b8 ((IntKind.u64.wrap (many * 8)).fdiv (2 ^ min (Int.toNat 56) IntKind.u64.bits))).toNat : Int)]) (b := b1) (off := 0) hs1 rfl (by kernel_rfl) (by first | rfl | (simp; done)) (by kernel_rfl) (by first | rfl | (simp; done)) (fun j u hj => cell_row hs1 0 rfl hj) (by kernel_rfl) (by first | omega | (simp; omega)) (by first | omega | (simp; omega)) fun a2 cap2 w2 hs2 => ?_)
  simp only [List.set_cons_zero, List.set_cons_succ] at hs2
  clear hs1
  replace hs2 := Sat.selDrop hs2 2 [1] (by decide) (by decide)
  simp only [pickAll, List.filterMap_cons, List.filterMap_nil, List.getElem?_cons_zero, List.getElem?_cons_succ, List.cons_append, List.nil_append, List.drop_succ_cons, List.drop_zero] at hs2
  refine To.run 8 ?_
  obtain ⟨l1, g1⟩ : ∃ l, l = l0 ++ [padB many 56] := ⟨_, rfl⟩
  refine To.known 3 _ (by kernel_rfl) (snocLen l0 (padB many 56) a2 cap2) ?_
  rw [← g1]
  have hs := snoc_row (b := padB many 56) hs2 g1
  clear hs2
  have n1 : l1.length = l0.length + 1 := by rw [g1]; simp
  refine To.run 1 ?_
  refine To.at (fn := Try.f17) (n := 8) (l := [(0, Value.int IntKind.u64 many), (3, Value.slice a2 l1.length cap2), (4, Value.int IntKind.i64 6)]) (by kernel_rfl) fun j => ?_
  refine To.run 18 ?_
  refine To.known 26 _ (by kernel_rfl) (u8_b8 ((IntKind.u64.wrap (many * 8)).fdiv (2 ^ min (Int.toNat 48) IntKind.u64.bits))) ?_
  refine To.one (One.slit (t := 28) (n := 1) (parts := [(0, Value.int IntKind.u8 (↑(b8 ((IntKind.u64.wrap (many * 8)).fdiv (2 ^ min (Int.toNat 48) IntKind.u64.bits))).toNat : Int))]) 5 [Value.int IntKind.u8 (↑(b8 ((IntKind.u64.wrap (many * 8)).fdiv (2 ^ min (Int.toNat 48) IntKind.u64.bits))).toNat : Int)] hs (by kernel_rfl) (by kernel_rfl) fun b2 w3 hs1 => ?_)
  clear hs
  refine To.one (One.appRow 1 (t := 28) (ty := 28) (e := 5) (by_ := 1) (a := a2) (cap := cap2) (m := 1) (cp := 1) (n := l1.length) (xs := List.map u8V l1) (news := [Value.int IntKind.u8 (↑(b8 ((IntKind.u64.wrap (many * 8)).fdiv (2 ^ min (Int.toNat 48) IntKind.u64.bits))).toNat : Int)]) (b := b2) (off := 0) hs1 rfl (by kernel_rfl) (by first | rfl | (simp; done)) (by kernel_rfl) (by first | rfl | (simp; done)) (fun j u hj => cell_row hs1 0 rfl hj) (by kernel_rfl) (by first | omega | (simp; omega)) (by first | omega | (simp; omega)) fun a3 cap3 w4 hs2 => ?_)
  simp only [List.set_cons_zero, List.set_cons_succ] at hs2
  clear hs1
  replace hs2 := Sat.selDrop hs2 2 [1] (by decide) (by decide)
  simp only [pickAll, List.filterMap_cons, List.filterMap_nil, List.getElem?_cons_zero, List.getElem?_cons_succ, List.cons_append, List.nil_append, List.drop_succ_cons, List.drop_zero] at hs2
  refine To.run 8 ?_
  obtain ⟨l2, g2⟩ : ∃ l, l = l1 ++ [padB many 48] := ⟨_, rfl⟩
  refine To.known 3 _ (by kernel_rfl) (snocLen l1 (padB many 48) a3 cap3) ?_
  rw [← g2]
  have hs := snoc_row (b := padB many 48) hs2 g2
  clear hs2
  have n2 : l2.length = l1.length + 1 := by rw [g2]; simp
  refine To.run 1 ?_
  refine To.at (fn := Try.f17) (n := 8) (l := [(0, Value.int IntKind.u64 many), (3, Value.slice a3 l2.length cap3), (4, Value.int IntKind.i64 5)]) (by kernel_rfl) fun j => ?_
  refine To.run 18 ?_
  refine To.known 26 _ (by kernel_rfl) (u8_b8 ((IntKind.u64.wrap (many * 8)).fdiv (2 ^ min (Int.toNat 40) IntKind.u64.bits))) ?_
  refine To.one (One.slit (t := 28) (n := 1) (parts := [(0, Value.int IntKind.u8 (↑(b8 ((IntKind.u64.wrap (many * 8)).fdiv (2 ^ min (Int.toNat 40) IntKind.u64.bits))).toNat : Int))]) 5 [Value.int IntKind.u8 (↑(b8 ((IntKind.u64.wrap (many * 8)).fdiv (2 ^ min (Int.toNat 40) IntKind.u64.bits))).toNat : Int)] hs (by kernel_rfl) (by kernel_rfl) fun b3 w5 hs1 => ?_)
  clear hs
  refine To.one (One.appRow 1 (t := 28) (ty := 28) (e := 5) (by_ := 1) (a := a3) (cap := cap3) (m := 1) (cp := 1) (n := l2.length) (xs := List.map u8V l2) (news := [Value.int IntKind.u8 (↑(b8 ((IntKind.u64.wrap (many * 8)).fdiv (2 ^ min (Int.toNat 40) IntKind.u64.bits))).toNat : Int)]) (b := b3) (off := 0) hs1 rfl (by kernel_rfl) (by first | rfl | (simp; done)) (by kernel_rfl) (by first | rfl | (simp; done)) (fun j u hj => cell_row hs1 0 rfl hj) (by kernel_rfl) (by first | omega | (simp; omega)) (by first | omega | (simp; omega)) fun a4 cap4 w6 hs2 => ?_)
  simp only [List.set_cons_zero, List.set_cons_succ] at hs2
  clear hs1
  replace hs2 := Sat.selDrop hs2 2 [1] (by decide) (by decide)
  simp only [pickAll, List.filterMap_cons, List.filterMap_nil, List.getElem?_cons_zero, List.getElem?_cons_succ, List.cons_append, List.nil_append, List.drop_succ_cons, List.drop_zero] at hs2
  refine To.run 8 ?_
  obtain ⟨l3, g3⟩ : ∃ l, l = l2 ++ [padB many 40] := ⟨_, rfl⟩
  refine To.known 3 _ (by kernel_rfl) (snocLen l2 (padB many 40) a4 cap4) ?_
  rw [← g3]
  have hs := snoc_row (b := padB many 40) hs2 g3
  clear hs2
  have n3 : l3.length = l2.length + 1 := by rw [g3]; simp
  refine To.run 1 ?_
  refine To.at (fn := Try.f17) (n := 8) (l := [(0, Value.int IntKind.u64 many), (3, Value.slice a4 l3.length cap4), (4, Value.int IntKind.i64 4)]) (by kernel_rfl) fun j => ?_
  refine To.run 18 ?_
  refine To.known 26 _ (by kernel_rfl) (u8_b8 ((IntKind.u64.wrap (many * 8)).fdiv (2 ^ min (Int.toNat 32) IntKind.u64.bits))) ?_
  refine To.one (One.slit (t := 28) (n := 1) (parts := [(0, Value.int IntKind.u8 (↑(b8 ((IntKind.u64.wrap (many * 8)).fdiv (2 ^ min (Int.toNat 32) IntKind.u64.bits))).toNat : Int))]) 5 [Value.int IntKind.u8 (↑(b8 ((IntKind.u64.wrap (many * 8)).fdiv (2 ^ min (Int.toNat 32) IntKind.u64.bits))).toNat : Int)] hs (by kernel_rfl) (by kernel_rfl) fun b4 w7 hs1 => ?_)
  clear hs
  refine To.one (One.appRow 1 (t := 28) (ty := 28) (e := 5) (by_ := 1) (a := a4) (cap := cap4) (m := 1) (cp := 1) (n := l3.length) (xs := List.map u8V l3) (news := [Value.int IntKind.u8 (↑(b8 ((IntKind.u64.wrap (many * 8)).fdiv (2 ^ min (Int.toNat 32) IntKind.u64.bits))).toNat : Int)]) (b := b4) (off := 0) hs1 rfl (by kernel_rfl) (by first | rfl | (simp; done)) (by kernel_rfl) (by first | rfl | (simp; done)) (fun j u hj => cell_row hs1 0 rfl hj) (by kernel_rfl) (by first | omega | (simp; omega)) (by first | omega | (simp; omega)) fun a5 cap5 w8 hs2 => ?_)
  simp only [List.set_cons_zero, List.set_cons_succ] at hs2
  clear hs1
  replace hs2 := Sat.selDrop hs2 2 [1] (by decide) (by decide)
  simp only [pickAll, List.filterMap_cons, List.filterMap_nil, List.getElem?_cons_zero, List.getElem?_cons_succ, List.cons_append, List.nil_append, List.drop_succ_cons, List.drop_zero] at hs2
  refine To.run 8 ?_
  obtain ⟨l4, g4⟩ : ∃ l, l = l3 ++ [padB many 32] := ⟨_, rfl⟩
  refine To.known 3 _ (by kernel_rfl) (snocLen l3 (padB many 32) a5 cap5) ?_
  rw [← g4]
  have hs := snoc_row (b := padB many 32) hs2 g4
  clear hs2
  have n4 : l4.length = l3.length + 1 := by rw [g4]; simp
  refine To.run 1 ?_
  refine To.at (fn := Try.f17) (n := 8) (l := [(0, Value.int IntKind.u64 many), (3, Value.slice a5 l4.length cap5), (4, Value.int IntKind.i64 3)]) (by kernel_rfl) fun j => ?_
  refine To.run 18 ?_
  refine To.known 26 _ (by kernel_rfl) (u8_b8 ((IntKind.u64.wrap (many * 8)).fdiv (2 ^ min (Int.toNat 24) IntKind.u64.bits))) ?_
  refine To.one (One.slit (t := 28) (n := 1) (parts := [(0, Value.int IntKind.u8 (↑(b8 ((IntKind.u64.wrap (many * 8)).fdiv (2 ^ min (Int.toNat 24) IntKind.u64.bits))).toNat : Int))]) 5 [Value.int IntKind.u8 (↑(b8 ((IntKind.u64.wrap (many * 8)).fdiv (2 ^ min (Int.toNat 24) IntKind.u64.bits))).toNat : Int)] hs (by kernel_rfl) (by kernel_rfl) fun b5 w9 hs1 => ?_)
  clear hs
  refine To.one (One.appRow 1 (t := 28) (ty := 28) (e := 5) (by_ := 1) (a := a5) (cap := cap5) (m := 1) (cp := 1) (n := l4.length) (xs := List.map u8V l4) (news := [Value.int IntKind.u8 (↑(b8 ((IntKind.u64.wrap (many * 8)).fdiv (2 ^ min (Int.toNat 24) IntKind.u64.bits))).toNat : Int)]) (b := b5) (off := 0) hs1 rfl (by kernel_rfl) (by first | rfl | (simp; done)) (by kernel_rfl) (by first | rfl | (simp; done)) (fun j u hj => cell_row hs1 0 rfl hj) (by kernel_rfl) (by first | omega | (simp; omega)) (by first | omega | (simp; omega)) fun a6 cap6 w10 hs2 => ?_)
  simp only [List.set_cons_zero, List.set_cons_succ] at hs2
  clear hs1
  replace hs2 := Sat.selDrop hs2 2 [1] (by decide) (by decide)
  simp only [pickAll, List.filterMap_cons, List.filterMap_nil, List.getElem?_cons_zero, List.getElem?_cons_succ, List.cons_append, List.nil_append, List.drop_succ_cons, List.drop_zero] at hs2
  refine To.run 8 ?_
  obtain ⟨l5, g5⟩ : ∃ l, l = l4 ++ [padB many 24] := ⟨_, rfl⟩
  refine To.known 3 _ (by kernel_rfl) (snocLen l4 (padB many 24) a6 cap6) ?_
  rw [← g5]
  have hs := snoc_row (b := padB many 24) hs2 g5
  clear hs2
  have n5 : l5.length = l4.length + 1 := by rw [g5]; simp
  refine To.run 1 ?_
  refine To.at (fn := Try.f17) (n := 8) (l := [(0, Value.int IntKind.u64 many), (3, Value.slice a6 l5.length cap6), (4, Value.int IntKind.i64 2)]) (by kernel_rfl) fun j => ?_
  refine To.run 18 ?_
  refine To.known 26 _ (by kernel_rfl) (u8_b8 ((IntKind.u64.wrap (many * 8)).fdiv (2 ^ min (Int.toNat 16) IntKind.u64.bits))) ?_
  refine To.one (One.slit (t := 28) (n := 1) (parts := [(0, Value.int IntKind.u8 (↑(b8 ((IntKind.u64.wrap (many * 8)).fdiv (2 ^ min (Int.toNat 16) IntKind.u64.bits))).toNat : Int))]) 5 [Value.int IntKind.u8 (↑(b8 ((IntKind.u64.wrap (many * 8)).fdiv (2 ^ min (Int.toNat 16) IntKind.u64.bits))).toNat : Int)] hs (by kernel_rfl) (by kernel_rfl) fun b6 w11 hs1 => ?_)
  clear hs
  refine To.one (One.appRow 1 (t := 28) (ty := 28) (e := 5) (by_ := 1) (a := a6) (cap := cap6) (m := 1) (cp := 1) (n := l5.length) (xs := List.map u8V l5) (news := [Value.int IntKind.u8 (↑(b8 ((IntKind.u64.wrap (many * 8)).fdiv (2 ^ min (Int.toNat 16) IntKind.u64.bits))).toNat : Int)]) (b := b6) (off := 0) hs1 rfl (by kernel_rfl) (by first | rfl | (simp; done)) (by kernel_rfl) (by first | rfl | (simp; done)) (fun j u hj => cell_row hs1 0 rfl hj) (by kernel_rfl) (by first | omega | (simp; omega)) (by first | omega | (simp; omega)) fun a7 cap7 w12 hs2 => ?_)
  simp only [List.set_cons_zero, List.set_cons_succ] at hs2
  clear hs1
  replace hs2 := Sat.selDrop hs2 2 [1] (by decide) (by decide)
  simp only [pickAll, List.filterMap_cons, List.filterMap_nil, List.getElem?_cons_zero, List.getElem?_cons_succ, List.cons_append, List.nil_append, List.drop_succ_cons, List.drop_zero] at hs2
  refine To.run 8 ?_
  obtain ⟨l6, g6⟩ : ∃ l, l = l5 ++ [padB many 16] := ⟨_, rfl⟩
  refine To.known 3 _ (by kernel_rfl) (snocLen l5 (padB many 16) a7 cap7) ?_
  rw [← g6]
  have hs := snoc_row (b := padB many 16) hs2 g6
  clear hs2
  have n6 : l6.length = l5.length + 1 := by rw [g6]; simp
  refine To.run 1 ?_
  refine To.at (fn := Try.f17) (n := 8) (l := [(0, Value.int IntKind.u64 many), (3, Value.slice a7 l6.length cap7), (4, Value.int IntKind.i64 1)]) (by kernel_rfl) fun j => ?_
  refine To.run 18 ?_
  refine To.known 26 _ (by kernel_rfl) (u8_b8 ((IntKind.u64.wrap (many * 8)).fdiv (2 ^ min (Int.toNat 8) IntKind.u64.bits))) ?_
  refine To.one (One.slit (t := 28) (n := 1) (parts := [(0, Value.int IntKind.u8 (↑(b8 ((IntKind.u64.wrap (many * 8)).fdiv (2 ^ min (Int.toNat 8) IntKind.u64.bits))).toNat : Int))]) 5 [Value.int IntKind.u8 (↑(b8 ((IntKind.u64.wrap (many * 8)).fdiv (2 ^ min (Int.toNat 8) IntKind.u64.bits))).toNat : Int)] hs (by kernel_rfl) (by kernel_rfl) fun b7 w13 hs1 => ?_)
  clear hs
  refine To.one (One.appRow 1 (t := 28) (ty := 28) (e := 5) (by_ := 1) (a := a7) (cap := cap7) (m := 1) (cp := 1) (n := l6.length) (xs := List.map u8V l6) (news := [Value.int IntKind.u8 (↑(b8 ((IntKind.u64.wrap (many * 8)).fdiv (2 ^ min (Int.toNat 8) IntKind.u64.bits))).toNat : Int)]) (b := b7) (off := 0) hs1 rfl (by kernel_rfl) (by first | rfl | (simp; done)) (by kernel_rfl) (by first | rfl | (simp; done)) (fun j u hj => cell_row hs1 0 rfl hj) (by kernel_rfl) (by first | omega | (simp; omega)) (by first | omega | (simp; omega)) fun a8 cap8 w14 hs2 => ?_)
  simp only [List.set_cons_zero, List.set_cons_succ] at hs2
  clear hs1
  replace hs2 := Sat.selDrop hs2 2 [1] (by decide) (by decide)
  simp only [pickAll, List.filterMap_cons, List.filterMap_nil, List.getElem?_cons_zero, List.getElem?_cons_succ, List.cons_append, List.nil_append, List.drop_succ_cons, List.drop_zero] at hs2
  refine To.run 8 ?_
  obtain ⟨l7, g7⟩ : ∃ l, l = l6 ++ [padB many 8] := ⟨_, rfl⟩
  refine To.known 3 _ (by kernel_rfl) (snocLen l6 (padB many 8) a8 cap8) ?_
  rw [← g7]
  have hs := snoc_row (b := padB many 8) hs2 g7
  clear hs2
  have n7 : l7.length = l6.length + 1 := by rw [g7]; simp
  refine To.run 1 ?_
  refine To.at (fn := Try.f17) (n := 8) (l := [(0, Value.int IntKind.u64 many), (3, Value.slice a8 l7.length cap8), (4, Value.int IntKind.i64 0)]) (by kernel_rfl) fun j => ?_
  refine To.run 18 ?_
  refine To.known 26 _ (by kernel_rfl) (u8_b8 ((IntKind.u64.wrap (many * 8)).fdiv (2 ^ min (Int.toNat 0) IntKind.u64.bits))) ?_
  refine To.one (One.slit (t := 28) (n := 1) (parts := [(0, Value.int IntKind.u8 (↑(b8 ((IntKind.u64.wrap (many * 8)).fdiv (2 ^ min (Int.toNat 0) IntKind.u64.bits))).toNat : Int))]) 5 [Value.int IntKind.u8 (↑(b8 ((IntKind.u64.wrap (many * 8)).fdiv (2 ^ min (Int.toNat 0) IntKind.u64.bits))).toNat : Int)] hs (by kernel_rfl) (by kernel_rfl) fun b8 w15 hs1 => ?_)
  clear hs
  refine To.one (One.appRow 1 (t := 28) (ty := 28) (e := 5) (by_ := 1) (a := a8) (cap := cap8) (m := 1) (cp := 1) (n := l7.length) (xs := List.map u8V l7) (news := [Value.int IntKind.u8 (↑(Sx.b8 ((IntKind.u64.wrap (many * 8)).fdiv (2 ^ min (Int.toNat 0) IntKind.u64.bits))).toNat : Int)]) (b := b8) (off := 0) hs1 rfl (by kernel_rfl) (by first | rfl | (simp; done)) (by kernel_rfl) (by first | rfl | (simp; done)) (fun j u hj => cell_row hs1 0 rfl hj) (by kernel_rfl) (by first | omega | (simp; omega)) (by first | omega | (simp; omega)) fun a9 cap9 w16 hs2 => ?_)
  simp only [List.set_cons_zero, List.set_cons_succ] at hs2
  clear hs1
  replace hs2 := Sat.selDrop hs2 2 [1] (by decide) (by decide)
  simp only [pickAll, List.filterMap_cons, List.filterMap_nil, List.getElem?_cons_zero, List.getElem?_cons_succ, List.cons_append, List.nil_append, List.drop_succ_cons, List.drop_zero] at hs2
  refine To.run 8 ?_
  obtain ⟨l8, g8⟩ : ∃ l, l = l7 ++ [padB many 0] := ⟨_, rfl⟩
  refine To.known 3 _ (by kernel_rfl) (snocLen l7 (padB many 0) a9 cap9) ?_
  rw [← g8]
  have hs := snoc_row (b := padB many 0) hs2 g8
  clear hs2
  have n8 : l8.length = l7.length + 1 := by rw [g8]; simp
  refine To.run 1 ?_
  refine To.at (fn := Try.f17) (n := 8) (l := [(0, Value.int IntKind.u64 many), (3, Value.slice a9 l8.length cap9), (4, Value.int IntKind.i64 (-1))]) (by kernel_rfl) fun j => ?_
  refine To.run 11 ?_
  refine To.one (One.b2s 0 (src := 28) (dst := 9) (a := a9) (cap := cap9) (n := l8.length) (e := 5) (l8) hs rfl (by kernel_rfl) (by first | rfl | (simp; done)) (by kernel_rfl) (by kernel_rfl) ?_)
  refine To.run 2 ?_
  refine To.retv Try.func17 (by kernel_rfl) (v := Value.string { data := l8.toArray }) (by kernel_rfl) ?_
  have hfin : padL many = l8 := by
    rw [g8, g7, g6, g5, g4, g3, g2, g1, g0]
    simp [padL]
  exact ⟨_, _, rfl, ⟨by rw [hfin], rfl⟩, hs.sub (List.sublist_cons_self _ _)⟩

theorem RPad_loop (E : World) (L : List Res) (many : Int) (h0 : 0 ≤ many) (h1 : many ≤ 18446744073709551615) : ∀ (m k : Nat) (l : List UInt8) (a : Option Addr) (cap : Nat) (j : Nat → Value) (w : World), k + m = padZ many → l = 128 :: List.replicate k 0 → Sat E w (row a cap 5 (l.map u8V) :: L) →
    To Try.prog 17 (Cfg.here Try.f17 3 j [(0, .int .u64 many), (3, .slice a l.length cap)]) w (Fins E L (fun v l => v = .string ⟨(padL many).toArray⟩ ∧ l = [])) := by
  have hz := padZ_lt many
  intro m
  induction m with
  | zero =>
    intro k l a cap j w hk hl hs
    obtain rfl : k = padZ many := by omega
    exact RPad_end E L many h0 h1 l hl a cap j w hs
  | succ m ih =>
    intro k l a cap j w hk hl hs
    have hll : l.length = k + 1 := by rw [hl]; simp
    have hc : ((IntKind.u64.wrap (many + (l.length : Int))).tmod 64 != 56) = true := by
      have := padStop many h0 k (by omega)
      rw [padZ_is many h0 _ (by omega)] at this
      rw [hll, this]
      simp
      omega
    obtain ⟨l', g⟩ : ∃ l', l' = l ++ [0] := ⟨_, rfl⟩
    have hk64 : k < 64 := by omega
    refine To.run 7 ?_
    refine To.known 9 (v := .int .u64 (IntKind.u64.wrap ((↑l.length : Int)))) (.int .u64 ((↑l.length : Int))) (by kernel_rfl) (by rw [wrap_u64 (by omega) (by omega)]) ?_
    refine To.run 1 ?_
    refine To.run 3 ?_
    refine To.isTrue 12 (t := (IntKind.u64.wrap (many + (↑l.length : Int))).tmod 64 != 56) (by kernel_rfl) (by assumption) ?_
    refine To.run 5 ?_
    refine To.one (One.slit (t := 28) (n := 1) (parts := [(0, Value.int IntKind.u8 0)]) 5 [Value.int IntKind.u8 0] hs (by kernel_rfl) (by kernel_rfl) fun b1 w1 hs1 => ?_)
    clear hs
    refine To.one (One.appRow 1 (t := 28) (ty := 28) (e := 5) (by_ := 1) (a := a) (cap := cap) (m := 1) (cp := 1) (n := l.length) (xs := List.map u8V l) (news := [Value.int IntKind.u8 0]) (b := b1) (off := 0) hs1 rfl (by kernel_rfl) (by first | rfl | (simp; done)) (by kernel_rfl) (by first | rfl | (simp; done)) (fun j u hj => cell_row hs1 0 rfl hj) (by kernel_rfl) (by first | omega | (simp; omega)) (by first | omega | (simp; omega)) fun a1 cap1 w2 hs2 => ?_)
    simp only [List.set_cons_zero, List.set_cons_succ] at hs2
    clear hs1
    replace hs2 := Sat.selDrop hs2 2 [1] (by decide) (by decide)
    simp only [pickAll, List.filterMap_cons, List.filterMap_nil, List.getElem?_cons_zero, List.getElem?_cons_succ, List.cons_append, List.nil_append, List.drop_succ_cons, List.drop_zero] at hs2
    refine To.run 3 ?_
    refine To.known 3 _ (by kernel_rfl) (snocLen l 0 a1 cap1) ?_
    rw [← g]
    have hs := snoc_row (b := 0) hs2 g
    clear hs2
    refine To.run 1 ?_
    refine To.at (fn := Try.f17) (n := 3) (l := [(0, Value.int IntKind.u64 many), (3, Value.slice a1 l'.length cap1)]) (by kernel_rfl) fun j => ?_
    exact ih (k + 1) l' _ _ _ _ (by omega) (by rw [g, hl, List.replicate_succ']; rfl) hs

theorem RPad_ok (many : Int) (h0 : 0 ≤ many) (h1 : many ≤ 18446744073709551615) : Trip Try.prog 17 [.int .u64 many] [] (fun v l => v = .string ⟨(padL many).toArray⟩ ∧ l = []) := by
  refine Trip.of Try.func17 (by kernel_rfl) fun E w L hs => ?_
  simp only [List.nil_append] at hs
  refine To.run 6 ?_
  refine To.one (One.slit (t := 28) (n := 1) (parts := [(0, Value.int IntKind.u8 128)]) 5 [Value.int IntKind.u8 128] hs (by kernel_rfl) (by kernel_rfl) fun b1 w1 hs1 => ?_)
  clear hs
  refine To.run 4 ?_
  refine To.run 1 ?_
  refine To.at (fn := Try.f17) (n := 3) (l := [(0, Value.int IntKind.u64 many), (3, Value.slice (some { block := b1, off := 0 }) 1 1)]) (by kernel_rfl) fun j => ?_
  exact RPad_loop E L many h0 h1 (padZ many) 0 [128] _ _ _ _ (by omega) rfl (celRow hs1 (by decide))
end Go.Proofs.Ytkddomellpldjaa
