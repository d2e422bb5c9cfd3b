import Derived.Test.YtkddomellpldjaaProg
import Derived.Test.YtkddomellpldjaaSxStr
import Derived.Test.YtkddomellpldjaaSex
set_option linter.unusedSimpArgs false
set_option linter.unusedVariables false
namespace Go.Proofs.Ytkddomellpldjaa
open Go Go.Sx
set_option linter.unusedSimpArgs false
set_option maxHeartbeats 0
set_option maxRecDepth 20000

theorem or_byte (q : Int) (x : UInt8) (h0 : 0 ≤ q) (h1 : q * 256 + 255 ≤ 18446744073709551615) : Value.int .u64 (IntKind.u64.wrap ((BitVec.ofInt IntKind.u64.bits (q * 256) ||| BitVec.ofInt IntKind.u64.bits (x.toNat : Int)).toNat : Int)) = Value.int .u64 (q * 256 + (x.toNat : Int)) := by
  show Value.int .u64 (IntKind.u64.wrap ((BitVec.ofInt 64 (q * 256) ||| BitVec.ofInt 64 (x.toNat : Int)).toNat : Int)) = _
  have hx := x.toNat_lt
  obtain ⟨n, rfl⟩ : ∃ n : Nat, q = n := ⟨q.toNat, by omega⟩
  have e1 : (BitVec.ofInt 64 ((n : Int) * 256)).toNat = 2 ^ 8 * n := by rw [BitVec.toNat_ofInt]; omega
  have e2 : (BitVec.ofInt 64 (x.toNat : Int)).toNat = x.toNat := by rw [BitVec.toNat_ofInt]; omega
  rw [BitVec.toNat_or, e1, e2, ← Nat.two_pow_add_eq_or_of_lt (by omega), wrap_u64 (by omega) (by omega)]
  congr 1
  omega

theorem padB_val (many : Int) (sh : Nat) (d : Int) (hd : (2 : Int) ^ sh = d) (h0 : 0 < d) : ((padB many sh).toNat : Int) = (IntKind.u64.wrap (many * 8) / d) % 256 := by
  unfold padB b8
  rw [hd, Int.fdiv_eq_ediv_of_nonneg _ (by omega)]
  simp only [UInt8.toNat_ofNat', Nat.reducePow]
  omega

theorem padL_tail (many : Int) (k : Nat) (x : UInt8) (h : [padB many 56, padB many 48, padB many 40, padB many 32, padB many 24, padB many 16, padB many 8, padB many 0][k]? = some x) : (padL many)[padZ many + 1 + k]? = some x := by
  unfold padL
  rw [List.getElem?_append_right (by simp <;> omega)]
  simp only [List.length_cons, List.length_replicate]
  rw [show padZ many + 1 + k - (padZ many + 1) = k by omega]
  exact h
theorem padL_mid (many : Int) (k : Nat) (h : k < padZ many) : (padL many)[k + 1]? = some 0 := by
  unfold padL
  rw [List.getElem?_append_left (by simp <;> omega), List.getElem?_cons_succ, List.getElem?_replicate, if_pos h]

theorem LP_zeros (W : World) (many : Int) (P : ByteArray) (z : Nat) (hz : z < 64) (hP : P.size = z + 9) (hm : ∀ k, k < z → P.data.toList[k + 1]? = some 0) (h0 : 0 ≤ many) (h1 : many ≤ 18446744073709551615) :
    ∀ (m k : Nat) (j : Nat → Value) (w : World), k + m = z → Sat W w [old W] →
    To Try.prog 8 (Cfg.here Try.f8 18 j [(0, .int .u64 many), (3, .bool true), (4, .string P), (5, .int .u64 (IntKind.u64.wrap (many * 8))), (7, .int .i64 (k + 1))]) w (LawEnd W) := by
  intro m
  induction m with
  | zero =>
    intro k j w hk hs
    obtain rfl : k = z := by omega
    obtain ⟨V, hV⟩ : ∃ V, IntKind.u64.wrap (many * 8) = V := ⟨_, rfl⟩
    rw [hV]
    refine To.run 7 ?_
    refine To.known 55 (v := .int .i64 (IntKind.i64.wrap ((↑P.size : Int) - 8))) (.int .i64 ((↑P.size : Int) - 8)) (by kernel_rfl) (by rw [wrap_i64 (by omega) (by omega)]) ?_
    refine To.run 2 ?_
    refine To.isFalse 56 (t := decide ((↑k : Int) + 1 < (↑P.size : Int) - 8)) (by kernel_rfl) (by (simp; omega)) ?_
    refine To.run 9 ?_
    refine To.run 4 ?_
    refine To.retv Try.func8 (by kernel_rfl) (v := Value.bool (V == IntKind.u64.wrap (many * 8))) (by kernel_rfl) ?_
    rw [hV, beq_self_eq_true]
    exact hs.lawEnd 0 rfl
  | succ m ih =>
    intro k j w hk hs
    have hb := hm k (by omega)
    have hkz : k < z := by omega
    refine To.run 7 ?_
    refine To.known 55 (v := .int .i64 (IntKind.i64.wrap ((↑P.size : Int) - 8))) (.int .i64 ((↑P.size : Int) - 8)) (by kernel_rfl) (by rw [wrap_i64 (by omega) (by omega)]) ?_
    refine To.run 2 ?_
    refine To.isTrue 56 (t := decide ((↑k : Int) + 1 < (↑P.size : Int) - 8)) (by kernel_rfl) (by (simp; omega)) ?_
    refine To.run 8 ?_
    refine To.one (One.ixS (k + 1) (t := 9) (s := P) (kd := IntKind.i64) (i := (↑k : Int) + 1) (x := 0) (by kernel_rfl) (by kernel_rfl) (by rfl) (hm (k) (by assumption)) ?_)
    refine To.run 8 ?_
    refine To.known 58 (v := .int .i64 (IntKind.i64.wrap ((↑k : Int) + 1 + 1))) (.int .i64 ((↑k : Int) + 1 + 1)) (by kernel_rfl) (by rw [wrap_i64 (by omega) (by omega)]) ?_
    refine To.run 2 ?_
    refine To.run 1 ?_
    refine To.at (fn := Try.f8) (n := 18) (l := [(0, Value.int IntKind.u64 many), (3, Value.bool true), (4, Value.string P), (5, Value.int IntKind.u64 (IntKind.u64.wrap (many * 8))), (7, Value.int IntKind.i64 ((↑k : Int) + 1 + 1))]) (by kernel_rfl) fun j => ?_
    exact ih (k + 1) _ _ (by omega) hs

theorem LP_law (W : World) (many : Int) (h0 : 0 ≤ many) (h1 : many ≤ 18446744073709551615) : Calls Try.prog 8 #[.int .u64 many] W (LawEnd W) := by
  refine Sx.start (args := [_]) Try.func8 (by kernel_rfl) ?_
  have hs := Sat.start W
  obtain ⟨P, hP⟩ : ∃ A : ByteArray, A = ⟨(padL many).toArray⟩ := ⟨_, rfl⟩
  have hPl : P.data.toList = padL many := by rw [hP]
  have hPz : P.size = padZ many + 9 := by rw [size_list, hPl, padL_len]
  have c1 := Pad_ok many h0 h1
  rw [← hP] at c1
  clear hP
  have hz := padZ_lt many
  have b0 : P.data.toList[0]? = some 128 := by rw [hPl]; rfl
  have hmid : ∀ k, k < padZ many → P.data.toList[k + 1]? = some 0 := fun k hk => by rw [hPl]; exact padL_mid many k hk
  obtain ⟨x0, hx0⟩ : ∃ x, padB many 56 = x := ⟨_, rfl⟩
  have v0 := padB_val many 56 72057594037927936 (by decide) (by decide)
  have l0 := x0.toNat_lt
  have t0 : P.data.toList[padZ many + 1 + 0]? = some x0 := by rw [hPl]; exact padL_tail many 0 x0 (by rw [← hx0]; rfl)
  rw [hx0] at v0
  obtain ⟨x1, hx1⟩ : ∃ x, padB many 48 = x := ⟨_, rfl⟩
  have v1 := padB_val many 48 281474976710656 (by decide) (by decide)
  have l1 := x1.toNat_lt
  have t1 : P.data.toList[padZ many + 1 + 1]? = some x1 := by rw [hPl]; exact padL_tail many 1 x1 (by rw [← hx1]; rfl)
  rw [hx1] at v1
  obtain ⟨x2, hx2⟩ : ∃ x, padB many 40 = x := ⟨_, rfl⟩
  have v2 := padB_val many 40 1099511627776 (by decide) (by decide)
  have l2 := x2.toNat_lt
  have t2 : P.data.toList[padZ many + 1 + 2]? = some x2 := by rw [hPl]; exact padL_tail many 2 x2 (by rw [← hx2]; rfl)
  rw [hx2] at v2
  obtain ⟨x3, hx3⟩ : ∃ x, padB many 32 = x := ⟨_, rfl⟩
  have v3 := padB_val many 32 4294967296 (by decide) (by decide)
  have l3 := x3.toNat_lt
  have t3 : P.data.toList[padZ many + 1 + 3]? = some x3 := by rw [hPl]; exact padL_tail many 3 x3 (by rw [← hx3]; rfl)
  rw [hx3] at v3
  obtain ⟨x4, hx4⟩ : ∃ x, padB many 24 = x := ⟨_, rfl⟩
  have v4 := padB_val many 24 16777216 (by decide) (by decide)
  have l4 := x4.toNat_lt
  have t4 : P.data.toList[padZ many + 1 + 4]? = some x4 := by rw [hPl]; exact padL_tail many 4 x4 (by rw [← hx4]; rfl)
  rw [hx4] at v4
  obtain ⟨x5, hx5⟩ : ∃ x, padB many 16 = x := ⟨_, rfl⟩
  have v5 := padB_val many 16 65536 (by decide) (by decide)
  have l5 := x5.toNat_lt
  have t5 : P.data.toList[padZ many + 1 + 5]? = some x5 := by rw [hPl]; exact padL_tail many 5 x5 (by rw [← hx5]; rfl)
  rw [hx5] at v5
  obtain ⟨x6, hx6⟩ : ∃ x, padB many 8 = x := ⟨_, rfl⟩
  have v6 := padB_val many 8 256 (by decide) (by decide)
  have l6 := x6.toNat_lt
  have t6 : P.data.toList[padZ many + 1 + 6]? = some x6 := by rw [hPl]; exact padL_tail many 6 x6 (by rw [← hx6]; rfl)
  rw [hx6] at v6
  obtain ⟨x7, hx7⟩ : ∃ x, padB many 0 = x := ⟨_, rfl⟩
  have v7 := padB_val many 0 1 (by decide) (by decide)
  have l7 := x7.toNat_lt
  have t7 : P.data.toList[padZ many + 1 + 7]? = some x7 := by rw [hPl]; exact padL_tail many 7 x7 (by rw [← hx7]; rfl)
  rw [hx7] at v7
  have hw : (many % 64 + ((padZ many : Int) + 9)) % 64 = 0 := by unfold padZ; omega
  have hV0 : 0 ≤ IntKind.u64.wrap (many * 8) ∧ IntKind.u64.wrap (many * 8) ≤ 18446744073709551615 := by rw [IntKind.wrap_u64]; omega
  have fin := LP_zeros W many P (padZ many) hz hPz hmid h0 h1 (padZ many) 0
  obtain ⟨V, hV⟩ : ∃ V, IntKind.u64.wrap (many * 8) = V := ⟨_, rfl⟩
  obtain ⟨z, hzz⟩ : ∃ z, padZ many = z := ⟨_, rfl⟩
  simp only [hV] at v0 v1 v2 v3 v4 v5 v6 v7 hV0 fin
  simp only [hzz] at t0 t1 t2 t3 t4 t5 t6 t7 hz hPz hw fin
  clear hPl hzz hmid
  refine To.run 6 ?_
  refine To.one (One.call 1 [] [0] (g := 9) (args := []) (by kernel_rfl) hs (Ex_ok) (by decide) rfl ?_)
  rintro _ _ w1 ⟨rfl, rfl⟩ hs1
  simp only [pickAll, List.filterMap_cons, List.filterMap_nil, List.getElem?_cons_zero, List.getElem?_cons_succ, List.cons_append, List.nil_append, List.drop_succ_cons, List.drop_zero] at hs1
  clear hs
  refine To.run 13 ?_
  refine To.one (One.call 1 [] [0] (g := 16) (args := [Value.int IntKind.u64 many]) (by kernel_rfl) hs1 (c1) (by decide) rfl ?_)
  rintro _ _ w2 ⟨rfl, rfl⟩ hs2
  simp only [pickAll, List.filterMap_cons, List.filterMap_nil, List.getElem?_cons_zero, List.getElem?_cons_succ, List.cons_append, List.nil_append, List.drop_succ_cons, List.drop_zero] at hs2
  clear hs1
  refine To.run 9 ?_
  refine To.isFalse 16 (t := decide ((↑P.size : Int) < 9)) (by kernel_rfl) (by (simp; omega)) ?_
  refine To.run 5 ?_
  refine To.isFalse 21 (t := decide ((↑P.size : Int) > 72)) (by kernel_rfl) (by (simp; omega)) ?_
  refine To.run 1 ?_
  refine To.one (One.ixS (0) (t := 9) (s := P) (kd := IntKind.i64) (i := 0) (x := 128) (by kernel_rfl) (by kernel_rfl) (rfl) (b0) ?_)
  refine To.run 5 ?_
  refine To.known 28 _ (by kernel_rfl) (Q_rem (many) (64) (by first | decide | omega)) ?_
  refine To.run 3 ?_
  refine To.known 31 (v := .int .u64 (IntKind.u64.wrap ((↑P.size : Int)))) (.int .u64 ((↑P.size : Int))) (by kernel_rfl) (by rw [wrap_u64 (by omega) (by omega)]) ?_
  refine To.run 1 ?_
  refine To.known 32 (v := .int .u64 (IntKind.u64.wrap (many % 64 + (↑P.size : Int)))) (.int .u64 (many % 64 + (↑P.size : Int))) (by kernel_rfl) (by rw [wrap_u64 (by omega) (by omega)]) ?_
  refine To.run 1 ?_
  refine To.known 33 _ (by kernel_rfl) (Q_rem (many % 64 + (↑P.size : Int)) (64) (by first | decide | omega)) ?_
  refine To.run 3 ?_
  refine To.isFalse 35 (t := (many % 64 + (↑P.size : Int)) % 64 != 0) (by kernel_rfl) (by (simp; omega)) ?_
  refine To.run 12 ?_
  refine To.known 38 (v := .int .i64 (IntKind.i64.wrap ((↑P.size : Int) - 8))) (.int .i64 ((↑P.size : Int) - 8)) (by kernel_rfl) (by rw [wrap_i64 (by omega) (by omega)]) ?_
  refine To.run 3 ?_
  obtain ⟨q0, g0⟩ : ∃ q : Int, q = 0 := ⟨_, rfl⟩
  refine To.known 5 (v := .int .u64 0) (.int .u64 q0) (by kernel_rfl) (by rw [g0]) ?_
  refine To.known 6 (v := .int .i64 ((P.size : Int) - 8)) (.int .i64 ((z + 1 + 0 : Nat) : Int)) (by kernel_rfl) (by congr 1; omega) ?_
  have d0 : 0 ≤ q0 ∧ q0 ≤ 0 := by omega
  refine To.run 1 ?_
  refine To.at (fn := Try.f8) (n := 12) (l := [(0, Value.int IntKind.u64 many), (3, Value.bool true), (4, Value.string P), (5, Value.int IntKind.u64 q0), (6, Value.int IntKind.i64 (↑(z + 1 + 0) : Int))]) (by kernel_rfl) fun j => ?_
  refine To.run 8 ?_
  refine To.isTrue 42 (t := decide ((↑(z + 1 + 0) : Int) < (↑P.size : Int))) (by kernel_rfl) (by (simp; omega)) ?_
  refine To.run 7 ?_
  refine To.known 46 _ (by kernel_rfl) (Q_shl (q0) (8) (256) rfl (by first | decide | omega)) ?_
  refine To.run 2 ?_
  refine To.one (One.ixS (z + 1 + 0) (t := 9) (s := P) (kd := IntKind.i64) (i := (↑(z + 1 + 0) : Int)) (x := x0) (by kernel_rfl) (by kernel_rfl) (rfl) (t0) ?_)
  refine To.run 1 ?_
  refine To.known 50 (v := .int .u64 (IntKind.u64.wrap ((↑x0.toNat : Int)))) (.int .u64 ((↑x0.toNat : Int))) (by kernel_rfl) (by rw [wrap_u64 (by omega) (by omega)]) ?_
  refine To.run 1 ?_
  refine To.run 6 ?_
  refine To.known 44 (v := .int .i64 (IntKind.i64.wrap ((↑(z + 1 + 0) : Int) + 1))) (.int .i64 ((↑(z + 1 + 0) : Int) + 1)) (by kernel_rfl) (by rw [wrap_i64 (by omega) (by omega)]) ?_
  refine To.run 2 ?_
  refine To.known 5 _ (by kernel_rfl) (or_byte q0 x0 (by omega) (by omega)) ?_
  refine To.known 6 (v := .int .i64 (((z + 1 + 0 : Nat) : Int) + 1)) (.int .i64 ((z + 1 + 1 : Nat) : Int)) (by kernel_rfl) (by congr 1) ?_
  obtain ⟨q1, g1⟩ : ∃ q, q0 * 256 + (x0.toNat : Int) = q := ⟨_, rfl⟩
  rw [g1]
  have d1 : 0 ≤ q1 ∧ q1 ≤ 255 := by omega
  refine To.run 1 ?_
  refine To.at (fn := Try.f8) (n := 12) (l := [(0, Value.int IntKind.u64 many), (3, Value.bool true), (4, Value.string P), (5, Value.int IntKind.u64 q1), (6, Value.int IntKind.i64 (↑(z + 1 + 1) : Int))]) (by kernel_rfl) fun j => ?_
  refine To.run 8 ?_
  refine To.isTrue 42 (t := decide ((↑(z + 1 + 1) : Int) < (↑P.size : Int))) (by kernel_rfl) (by (simp; omega)) ?_
  refine To.run 7 ?_
  refine To.known 46 _ (by kernel_rfl) (Q_shl (q1) (8) (256) rfl (by first | decide | omega)) ?_
  refine To.run 2 ?_
  refine To.one (One.ixS (z + 1 + 1) (t := 9) (s := P) (kd := IntKind.i64) (i := (↑(z + 1 + 1) : Int)) (x := x1) (by kernel_rfl) (by kernel_rfl) (rfl) (t1) ?_)
  refine To.run 1 ?_
  refine To.known 50 (v := .int .u64 (IntKind.u64.wrap ((↑x1.toNat : Int)))) (.int .u64 ((↑x1.toNat : Int))) (by kernel_rfl) (by rw [wrap_u64 (by omega) (by omega)]) ?_
  refine To.run 1 ?_
  refine To.run 6 ?_
  refine To.known 44 (v := .int .i64 (IntKind.i64.wrap ((↑(z + 1 + 1) : Int) + 1))) (.int .i64 ((↑(z + 1 + 1) : Int) + 1)) (by kernel_rfl) (by rw [wrap_i64 (by omega) (by omega)]) ?_
  refine To.run 2 ?_
  refine To.known 5 _ (by kernel_rfl) (or_byte q1 x1 (by omega) (by omega)) ?_
  refine To.known 6 (v := .int .i64 (((z + 1 + 1 : Nat) : Int) + 1)) (.int .i64 ((z + 1 + 2 : Nat) : Int)) (by kernel_rfl) (by congr 1) ?_
  obtain ⟨q2, g2⟩ : ∃ q, q1 * 256 + (x1.toNat : Int) = q := ⟨_, rfl⟩
  rw [g2]
  have d2 : 0 ≤ q2 ∧ q2 ≤ 65535 := by omega
  refine To.run 1 ?_
  refine To.at (fn := Try.f8) (n := 12) (l := [(0, Value.int IntKind.u64 many), (3, Value.bool true), (4, Value.string P), (5, Value.int IntKind.u64 q2), (6, Value.int IntKind.i64 (↑(z + 1 + 2) : Int))]) (by kernel_rfl) fun j => ?_
  refine To.run 8 ?_
  refine To.isTrue 42 (t := decide ((↑(z + 1 + 2) : Int) < (↑P.size : Int))) (by kernel_rfl) (by (simp; omega)) ?_
  refine To.run 7 ?_
  refine To.known 46 _ (by kernel_rfl) (Q_shl (q2) (8) (256) rfl (by first | decide | omega)) ?_
  refine To.run 2 ?_
  refine To.one (One.ixS (z + 1 + 2) (t := 9) (s := P) (kd := IntKind.i64) (i := (↑(z + 1 + 2) : Int)) (x := x2) (by kernel_rfl) (by kernel_rfl) (rfl) (t2) ?_)
  refine To.run 1 ?_
  refine To.known 50 (v := .int .u64 (IntKind.u64.wrap ((↑x2.toNat : Int)))) (.int .u64 ((↑x2.toNat : Int))) (by kernel_rfl) (by rw [wrap_u64 (by omega) (by omega)]) ?_
  refine To.run 1 ?_
  refine To.run 6 ?_
  refine To.known 44 (v := .int .i64 (IntKind.i64.wrap ((↑(z + 1 + 2) : Int) + 1))) (.int .i64 ((↑(z + 1 + 2) : Int) + 1)) (by kernel_rfl) (by rw [wrap_i64 (by omega) (by omega)]) ?_
  refine To.run 2 ?_
  refine To.known 5 _ (by kernel_rfl) (or_byte q2 x2 (by omega) (by omega)) ?_
  refine To.known 6 (v := .int .i64 (((z + 1 + 2 : Nat) : Int) + 1)) (.int .i64 ((z + 1 + 3 : Nat) : Int)) (by kernel_rfl) (by congr 1) ?_
  obtain ⟨q3, g3⟩ : ∃ q, q2 * 256 + (x2.toNat : Int) = q := ⟨_, rfl⟩
  rw [g3]
  have d3 : 0 ≤ q3 ∧ q3 ≤ 16777215 := by omega
  refine To.run 1 ?_
  refine To.at (fn := Try.f8) (n := 12) (l := [(0, Value.int IntKind.u64 many), (3, Value.bool true), (4, Value.string P), (5, Value.int IntKind.u64 q3), (6, Value.int IntKind.i64 (↑(z + 1 + 3) : Int))]) (by kernel_rfl) fun j => ?_
  refine To.run 8 ?_
  refine To.isTrue 42 (t := decide ((↑(z + 1 + 3) : Int) < (↑P.size : Int))) (by kernel_rfl) (by (simp; omega)) ?_
  refine To.run 7 ?_
  refine To.known 46 _ (by kernel_rfl) (Q_shl (q3) (8) (256) rfl (by first | decide | omega)) ?_
  refine To.run 2 ?_
  refine To.one (One.ixS (z + 1 + 3) (t := 9) (s := P) (kd := IntKind.i64) (i := (↑(z + 1 + 3) : Int)) (x := x3) (by kernel_rfl) (by kernel_rfl) (rfl) (t3) ?_)
  refine To.run 1 ?_
  refine To.known 50 (v := .int .u64 (IntKind.u64.wrap ((↑x3.toNat : Int)))) (.int .u64 ((↑x3.toNat : Int))) (by kernel_rfl) (by rw [wrap_u64 (by omega) (by omega)]) ?_
  refine To.run 1 ?_
  refine To.run 6 ?_
  refine To.known 44 (v := .int .i64 (IntKind.i64.wrap ((↑(z + 1 + 3) : Int) + 1))) (.int .i64 ((↑(z + 1 + 3) : Int) + 1)) (by kernel_rfl) (by rw [wrap_i64 (by omega) (by omega)]) ?_
  refine To.run 2 ?_
  refine To.known 5 _ (by kernel_rfl) (or_byte q3 x3 (by omega) (by omega)) ?_
  refine To.known 6 (v := .int .i64 (((z + 1 + 3 : Nat) : Int) + 1)) (.int .i64 ((z + 1 + 4 : Nat) : Int)) (by kernel_rfl) (by congr 1) ?_
  obtain ⟨q4, g4⟩ : ∃ q, q3 * 256 + (x3.toNat : Int) = q := ⟨_, rfl⟩
  rw [g4]
  have d4 : 0 ≤ q4 ∧ q4 ≤ 4294967295 := by omega
  refine To.run 1 ?_
  refine To.at (fn := Try.f8) (n := 12) (l := [(0, Value.int IntKind.u64 many), (3, Value.bool true), (4, Value.string P), (5, Value.int IntKind.u64 q4), (6, Value.int IntKind.i64 (↑(z + 1 + 4) : Int))]) (by kernel_rfl) fun j => ?_
  refine To.run 8 ?_
  refine To.isTrue 42 (t := decide ((↑(z + 1 + 4) : Int) < (↑P.size : Int))) (by kernel_rfl) (by (simp; omega)) ?_
  refine To.run 7 ?_
  refine To.known 46 _ (by kernel_rfl) (Q_shl (q4) (8) (256) rfl (by first | decide | omega)) ?_
  refine To.run 2 ?_
  refine To.one (One.ixS (z + 1 + 4) (t := 9) (s := P) (kd := IntKind.i64) (i := (↑(z + 1 + 4) : Int)) (x := x4) (by kernel_rfl) (by kernel_rfl) (rfl) (t4) ?_)
  refine To.run 1 ?_
  refine To.known 50 (v := .int .u64 (IntKind.u64.wrap ((↑x4.toNat : Int)))) (.int .u64 ((↑x4.toNat : Int))) (by kernel_rfl) (by rw [wrap_u64 (by omega) (by omega)]) ?_
  refine To.run 1 ?_
  refine To.run 6 ?_
  refine To.known 44 (v := .int .i64 (IntKind.i64.wrap ((↑(z + 1 + 4) : Int) + 1))) (.int .i64 ((↑(z + 1 + 4) : Int) + 1)) (by kernel_rfl) (by rw [wrap_i64 (by omega) (by omega)]) ?_
  refine To.run 2 ?_
  refine To.known 5 _ (by kernel_rfl) (or_byte q4 x4 (by omega) (by omega)) ?_
  refine To.known 6 (v := .int .i64 (((z + 1 + 4 : Nat) : Int) + 1)) (.int .i64 ((z + 1 + 5 : Nat) : Int)) (by kernel_rfl) (by congr 1) ?_
  obtain ⟨q5, g5⟩ : ∃ q, q4 * 256 + (x4.toNat : Int) = q := ⟨_, rfl⟩
  rw [g5]
  have d5 : 0 ≤ q5 ∧ q5 ≤ 1099511627775 := by omega
  refine To.run 1 ?_
  refine To.at (fn := Try.f8) (n := 12) (l := [(0, Value.int IntKind.u64 many), (3, Value.bool true), (4, Value.string P), (5, Value.int IntKind.u64 q5), (6, Value.int IntKind.i64 (↑(z + 1 + 5) : Int))]) (by kernel_rfl) fun j => ?_
  refine To.run 8 ?_
  refine To.isTrue 42 (t := decide ((↑(z + 1 + 5) : Int) < (↑P.size : Int))) (by kernel_rfl) (by (simp; omega)) ?_
  refine To.run 7 ?_
  refine To.known 46 _ (by kernel_rfl) (Q_shl (q5) (8) (256) rfl (by first | decide | omega)) ?_
  refine To.run 2 ?_
  refine To.one (One.ixS (z + 1 + 5) (t := 9) (s := P) (kd := IntKind.i64) (i := (↑(z + 1 + 5) : Int)) (x := x5) (by kernel_rfl) (by kernel_rfl) (rfl) (t5) ?_)
  refine To.run 1 ?_
  refine To.known 50 (v := .int .u64 (IntKind.u64.wrap ((↑x5.toNat : Int)))) (.int .u64 ((↑x5.toNat : Int))) (by kernel_rfl) (by rw [wrap_u64 (by omega) (by omega)]) ?_
  refine To.run 1 ?_
  refine To.run 6 ?_
  refine To.known 44 (v := .int .i64 (IntKind.i64.wrap ((↑(z + 1 + 5) : Int) + 1))) (.int .i64 ((↑(z + 1 + 5) : Int) + 1)) (by kernel_rfl) (by rw [wrap_i64 (by omega) (by omega)]) ?_
  refine To.run 2 ?_
  refine To.known 5 _ (by kernel_rfl) (or_byte q5 x5 (by omega) (by omega)) ?_
  refine To.known 6 (v := .int .i64 (((z + 1 + 5 : Nat) : Int) + 1)) (.int .i64 ((z + 1 + 6 : Nat) : Int)) (by kernel_rfl) (by congr 1) ?_
  obtain ⟨q6, g6⟩ : ∃ q, q5 * 256 + (x5.toNat : Int) = q := ⟨_, rfl⟩
  rw [g6]
  have d6 : 0 ≤ q6 ∧ q6 ≤ 281474976710655 := by omega
  refine To.run 1 ?_
  refine To.at (fn := Try.f8) (n := 12) (l := [(0, Value.int IntKind.u64 many), (3, Value.bool true), (4, Value.string P), (5, Value.int IntKind.u64 q6), (6, Value.int IntKind.i64 (↑(z + 1 + 6) : Int))]) (by kernel_rfl) fun j => ?_
  refine To.run 8 ?_
  refine To.isTrue 42 (t := decide ((↑(z + 1 + 6) : Int) < (↑P.size : Int))) (by kernel_rfl) (by (simp; omega)) ?_
  refine To.run 7 ?_
  refine To.known 46 _ (by kernel_rfl) (Q_shl (q6) (8) (256) rfl (by first | decide | omega)) ?_
  refine To.run 2 ?_
  refine To.one (One.ixS (z + 1 + 6) (t := 9) (s := P) (kd := IntKind.i64) (i := (↑(z + 1 + 6) : Int)) (x := x6) (by kernel_rfl) (by kernel_rfl) (rfl) (t6) ?_)
  refine To.run 1 ?_
  refine To.known 50 (v := .int .u64 (IntKind.u64.wrap ((↑x6.toNat : Int)))) (.int .u64 ((↑x6.toNat : Int))) (by kernel_rfl) (by rw [wrap_u64 (by omega) (by omega)]) ?_
  refine To.run 1 ?_
  refine To.run 6 ?_
  refine To.known 44 (v := .int .i64 (IntKind.i64.wrap ((↑(z + 1 + 6) : Int) + 1))) (.int .i64 ((↑(z + 1 + 6) : Int) + 1)) (by kernel_rfl) (by rw [wrap_i64 (by omega) (by omega)]) ?_
  refine To.run 2 ?_
  refine To.known 5 _ (by kernel_rfl) (or_byte q6 x6 (by omega) (by omega)) ?_
  refine To.known 6 (v := .int .i64 (((z + 1 + 6 : Nat) : Int) + 1)) (.int .i64 ((z + 1 + 7 : Nat) : Int)) (by kernel_rfl) (by congr 1) ?_
  obtain ⟨q7, g7⟩ : ∃ q, q6 * 256 + (x6.toNat : Int) = q := ⟨_, rfl⟩
  rw [g7]
  have d7 : 0 ≤ q7 ∧ q7 ≤ 72057594037927935 := by omega
  refine To.run 1 ?_
  refine To.at (fn := Try.f8) (n := 12) (l := [(0, Value.int IntKind.u64 many), (3, Value.bool true), (4, Value.string P), (5, Value.int IntKind.u64 q7), (6, Value.int IntKind.i64 (↑(z + 1 + 7) : Int))]) (by kernel_rfl) fun j => ?_
  refine To.run 8 ?_
  refine To.isTrue 42 (t := decide ((↑(z + 1 + 7) : Int) < (↑P.size : Int))) (by kernel_rfl) (by (simp; omega)) ?_
  refine To.run 7 ?_
  refine To.known 46 _ (by kernel_rfl) (Q_shl (q7) (8) (256) rfl (by first | decide | omega)) ?_
  refine To.run 2 ?_
  refine To.one (One.ixS (z + 1 + 7) (t := 9) (s := P) (kd := IntKind.i64) (i := (↑(z + 1 + 7) : Int)) (x := x7) (by kernel_rfl) (by kernel_rfl) (rfl) (t7) ?_)
  refine To.run 1 ?_
  refine To.known 50 (v := .int .u64 (IntKind.u64.wrap ((↑x7.toNat : Int)))) (.int .u64 ((↑x7.toNat : Int))) (by kernel_rfl) (by rw [wrap_u64 (by omega) (by omega)]) ?_
  refine To.run 1 ?_
  refine To.run 6 ?_
  refine To.known 44 (v := .int .i64 (IntKind.i64.wrap ((↑(z + 1 + 7) : Int) + 1))) (.int .i64 ((↑(z + 1 + 7) : Int) + 1)) (by kernel_rfl) (by rw [wrap_i64 (by omega) (by omega)]) ?_
  refine To.run 2 ?_
  refine To.known 5 _ (by kernel_rfl) (or_byte q7 x7 (by omega) (by omega)) ?_
  refine To.known 6 (v := .int .i64 (((z + 1 + 7 : Nat) : Int) + 1)) (.int .i64 ((z + 1 + 8 : Nat) : Int)) (by kernel_rfl) (by congr 1) ?_
  obtain ⟨q8, g8⟩ : ∃ q, q7 * 256 + (x7.toNat : Int) = q := ⟨_, rfl⟩
  rw [g8]
  have d8 : 0 ≤ q8 ∧ q8 ≤ 18446744073709551615 := by omega
  refine To.run 1 ?_
  refine To.at (fn := Try.f8) (n := 12) (l := [(0, Value.int IntKind.u64 many), (3, Value.bool true), (4, Value.string P), (5, Value.int IntKind.u64 q8), (6, Value.int IntKind.i64 (↑(z + 1 + 8) : Int))]) (by kernel_rfl) fun j => ?_
  have hq8 : q8 = V := by omega
  rw [hq8]
  clear v0 v1 v2 v3 v4 v5 v6 v7
  refine To.run 8 ?_
  refine To.isFalse 42 (t := decide ((↑(z + 1 + 8) : Int) < (↑P.size : Int))) (by kernel_rfl) (by (simp; omega)) ?_
  refine To.run 8 ?_
  refine To.run 1 ?_
  refine To.at (fn := Try.f8) (n := 18) (l := [(0, Value.int IntKind.u64 many), (3, Value.bool true), (4, Value.string P), (5, Value.int IntKind.u64 V), (7, Value.int IntKind.i64 1)]) (by kernel_rfl) fun j => ?_
  exact fin _ _ (by omega) (by first | exact hs1 | exact hs2)
end Go.Proofs.Ytkddomellpldjaa
