import Derived.Test.YtkddomellpldjaaProg
import Derived.Test.YtkddomellpldjaaSxStr
import Derived.Test.YtkddomellpldjaaSspec
set_option linter.unusedSimpArgs false
set_option linter.unusedVariables false
namespace Go.Proofs.Ytkddomellpldjaa
open Go Go.Sx
set_option linter.unusedSimpArgs false
set_option maxHeartbeats 0
set_option maxRecDepth 20000

theorem mulB {u v M N : Int} (h0 : 0 ≤ u) (h1 : u ≤ M) (g0 : 0 ≤ v) (g1 : v ≤ N) : 0 ≤ u * v ∧ u * v ≤ M * N :=
  ⟨Int.mul_nonneg h0 g0, Int.mul_le_mul h1 g1 g0 (Int.le_trans h0 h1)⟩

theorem mulX (r a h x : Int) (hx : a + h * 4294967296 = x) : r * x = r * a + (r * h) * 4294967296 := by
  rw [← hx, Int.mul_add, Int.mul_assoc]

theorem cube_key (a h x r0 c0 r1 c1 s2 r3 c3 r4 c4 s5 r6 c6 r7 c7 s8 r9 c9 r10 c10 s11 r12 c12 r13 c13 s14 r15 c15 r16 c16 s17 : Int) (hx : a + h * 4294967296 = x)
    (e0 : r0 + 4294967296 * c0 = a * a + 0 + 0) (e1 : r1 + 4294967296 * c1 = a * h + 0 + c0) (f2 : s2 = 0 + c1) (e3 : r3 + 4294967296 * c3 = h * a + r1 + 0) (e4 : r4 + 4294967296 * c4 = h * h + s2 + c3) (f5 : s5 = 0 + c4)
    (e6 : r6 + 4294967296 * c6 = r0 * a + 0 + 0) (e7 : r7 + 4294967296 * c7 = r0 * h + 0 + c6) (f8 : s8 = 0 + c7) (e9 : r9 + 4294967296 * c9 = r3 * a + r7 + 0) (e10 : r10 + 4294967296 * c10 = r3 * h + s8 + c9) (f11 : s11 = 0 + c10)
    (e12 : r12 + 4294967296 * c12 = r4 * a + r10 + 0) (e13 : r13 + 4294967296 * c13 = r4 * h + s11 + c12) (f14 : s14 = 0 + c13) (e15 : r15 + 4294967296 * c15 = s5 * a + r13 + 0) (e16 : r16 + 4294967296 * c16 = s5 * h + s14 + c15) (f17 : s17 = 0 + c16) :
    x * x * x = r6 + 4294967296 * r9 + 18446744073709551616 * r12 + 79228162514264337593543950336 * r15 + 340282366920938463463374607431768211456 * r16 + 1461501637330902918203684832716283019655932542976 * s17 := by
  have hS : r0 + 4294967296 * r3 + 18446744073709551616 * r4 + 79228162514264337593543950336 * s5 = x * x := by
    have h1 : x * x = a * x + h * 4294967296 * x := by rw [← Int.add_mul, hx]
    have h2 : h * 4294967296 * x = (h * x) * 4294967296 := Int.mul_right_comm _ _ _
    rw [h1, h2, mulX a a h x hx, mulX h a h x hx]
    rw [Int.mul_comm h a] at e3 ⊢
    omega
  have h3 : x * x * x = r0 * x + 4294967296 * (r3 * x) + 18446744073709551616 * (r4 * x) + 79228162514264337593543950336 * (s5 * x) := by
    rw [← hS, Int.add_mul, Int.add_mul, Int.add_mul, Int.mul_assoc, Int.mul_assoc, Int.mul_assoc]
  rw [h3, mulX r0 a h x hx, mulX r3 a h x hx, mulX r4 a h x hx, mulX s5 a h x hx]
  omega

theorem Cube_ok (a h p : Int) (ha0 : 0 ≤ a) (ha1 : a ≤ 4294967295) (hh0 : 0 ≤ h) (hh1 : h ≤ 31) (hp : 0 ≤ p) (hp2 : p ≤ 400) : Trip Try.prog 28 [.int .u64 (a + h * 4294967296), .int .u64 p] [] (fun v l => v = .bool (decide (p * 79228162514264337593543950336 < (a + h * 4294967296) * (a + h * 4294967296) * (a + h * 4294967296))) ∧ l = []) := by
  refine Trip.of Try.func28 (by kernel_rfl) fun E w L hs => ?_
  simp only [List.nil_append] at hs
  have ediv : (a + h * 4294967296) / 4294967296 = h := by omega
  have emod : (a + h * 4294967296) % 4294967296 = a := by omega
  have mhh := mulB hh0 hh1 hh0 hh1
  have mhhh := mulB mhh.1 mhh.2 hh0 hh1
  obtain ⟨x, hx⟩ : ∃ x, a + h * 4294967296 = x := ⟨_, rfl⟩
  rw [hx] at ediv emod ⊢
  have hx0 : 0 ≤ x := by omega
  refine To.run 8 ?_
  refine To.known 18 _ (by kernel_rfl) (Q_shr (x) (32) (4294967296) rfl (by first | decide | omega)) ?_
  refine To.run 2 ?_
  refine To.known 5 (v := .int .u64 (x / 4294967296)) (.int .u64 h) (by kernel_rfl) (by rw [ediv]) ?_
  by_cases hgt : h * h * h > p
  · refine To.run 6 ?_
    refine To.known 21 (v := .int .u64 (IntKind.u64.wrap (h * h))) (.int .u64 (h * h)) (by kernel_rfl) (by rw [wrap_u64 (by omega) (by omega)]) ?_
    refine To.run 2 ?_
    refine To.known 23 (v := .int .u64 (IntKind.u64.wrap (h * h * h))) (.int .u64 (h * h * h)) (by kernel_rfl) (by rw [wrap_u64 (by omega) (by omega)]) ?_
    refine To.run 3 ?_
    refine To.isTrue 25 (t := decide (h * h * h > p)) (by kernel_rfl) (by (simp; omega)) ?_
    refine To.run 5 ?_
    refine To.retv Try.func28 (by kernel_rfl) (v := Value.bool true) (by kernel_rfl) ?_
    have hbig : p * 79228162514264337593543950336 < x * x * x := by
      have h2 : h * 4294967296 ≤ x := by omega
      have h3 : (h * 4294967296) * (h * 4294967296) ≤ x * x := Int.mul_le_mul h2 h2 (by omega) hx0
      have h4 : (h * 4294967296) * (h * 4294967296) * (h * 4294967296) ≤ x * x * x := Int.mul_le_mul h3 h2 (by omega) (Int.mul_nonneg hx0 hx0)
      have e : (h * 4294967296) * (h * 4294967296) * (h * 4294967296) = (h * h * h) * 79228162514264337593543950336 := by
        have e1 : (79228162514264337593543950336 : Int) = 4294967296 * 4294967296 * 4294967296 := by decide
        rw [e1]
        ac_rfl
      omega
    exact ⟨_, _, rfl, ⟨by rw [decide_eq_true hbig], rfl⟩, hs⟩
  · refine To.run 6 ?_
    refine To.known 21 (v := .int .u64 (IntKind.u64.wrap (h * h))) (.int .u64 (h * h)) (by kernel_rfl) (by rw [wrap_u64 (by omega) (by omega)]) ?_
    refine To.run 2 ?_
    refine To.known 23 (v := .int .u64 (IntKind.u64.wrap (h * h * h))) (.int .u64 (h * h * h)) (by kernel_rfl) (by rw [wrap_u64 (by omega) (by omega)]) ?_
    refine To.run 3 ?_
    refine To.isFalse 25 (t := decide (h * h * h > p)) (by kernel_rfl) (by (simp; omega)) ?_
    refine To.run 6 ?_
    refine To.known 27 _ (by kernel_rfl) (Q_rem (x) (4294967296) (by first | decide | omega)) ?_
    refine To.run 2 ?_
    refine To.one (One.alloc (t := 46) [Value.int IntKind.u64 0, Value.int IntKind.u64 0, Value.int IntKind.u64 0, Value.int IntKind.u64 0, Value.int IntKind.u64 0, Value.int IntKind.u64 0] hs (by kernel_rfl) (by kernel_rfl) fun b1 w1 hs1 => ?_)
    clear hs
    refine To.one (One.store 0 (t := 46) (off := 0) (v := Value.agg #[Value.int IntKind.u64 (x % 4294967296), Value.int IntKind.u64 h, Value.int IntKind.u64 0, Value.int IntKind.u64 0, Value.int IntKind.u64 0, Value.int IntKind.u64 0]) (vs' := [Value.int IntKind.u64 (x % 4294967296), Value.int IntKind.u64 h, Value.int IntKind.u64 0, Value.int IntKind.u64 0, Value.int IntKind.u64 0, Value.int IntKind.u64 0]) hs1 rfl (by kernel_rfl) (by kernel_rfl) (by kernel_rfl) fun w2 hs2 => ?_)
    simp only [List.set_cons_zero, List.set_cons_succ] at hs2
    clear hs1
    refine To.run 3 ?_
    refine To.one (One.alloc (t := 46) [Value.int IntKind.u64 0, Value.int IntKind.u64 0, Value.int IntKind.u64 0, Value.int IntKind.u64 0, Value.int IntKind.u64 0, Value.int IntKind.u64 0] hs2 (by kernel_rfl) (by kernel_rfl) fun b2 w3 hs1 => ?_)
    clear hs2
    refine To.run 1 ?_
    refine To.known 27 (v := .int .u64 (x % 4294967296)) (.int .u64 a) (by kernel_rfl) (by rw [emod]) ?_
    refine To.run 6 ?_
    rw [emod] at hs1
    -- GEN
    refine To.run 1 ?_
    refine To.at (fn := Try.f28) (n := 9) (l := [(0, Value.int IntKind.u64 x), (1, Value.int IntKind.u64 p), (6, Value.pointer (some { block := b1, off := 0 : Addr })), (7, Value.pointer (some { block := b2, off := 0 : Addr })), (8, Value.int IntKind.i64 0)]) (by kernel_rfl) fun j => ?_
    refine To.run 20 ?_
    refine To.run 1 ?_
    refine To.at (fn := Try.f28) (n := 16) (l := [(0, Value.int IntKind.u64 x), (1, Value.int IntKind.u64 p), (6, Value.pointer (some { block := b1, off := 0 : Addr })), (7, Value.pointer (some { block := b2, off := 0 : Addr })), (8, Value.int IntKind.i64 0), (9, Value.int IntKind.u64 0), (10, Value.int IntKind.i64 0)]) (by kernel_rfl) fun j => ?_
    have m0 := mulB (u := a) (v := a) (M := 4294967295) (N := 4294967295) (by omega) (by omega) (by omega) (by omega)
    refine To.run 11 ?_
    refine To.draw [cel b2 46 [Value.int IntKind.u64 0, Value.int IntKind.u64 0, Value.int IntKind.u64 0, Value.int IntKind.u64 0, Value.int IntKind.u64 0, Value.int IntKind.u64 0], cel b1 46 [Value.int IntKind.u64 a, Value.int IntKind.u64 h, Value.int IntKind.u64 0, Value.int IntKind.u64 0, Value.int IntKind.u64 0, Value.int IntKind.u64 0]] [] 16 hs1 (by kernel_rfl) (by kernel_rfl) (by kernel_rfl) fun w4 hs2 => ?_
    clear hs1
    have hb1 := Sat.holds hs2 [0, 1] rfl
    refine Reg.pures [0, 1, 3, 4, 7, 8, 9, 10, 13] (fuel' := 7) (.inl hb1) rfl (by kernel_rfl) ?_
    refine Reg.load 2 1 (t := 27) (off := 0) (v := Value.int IntKind.u64 a) (.inl hb1) rfl (by kernel_rfl) (by kernel_rfl) (by kernel_rfl) ?_
    refine Reg.load 5 1 (t := 27) (off := 0) (v := Value.int IntKind.u64 a) (.inl hb1) rfl (by kernel_rfl) (by kernel_rfl) (by kernel_rfl) ?_
    refine Reg.pures [6] (fuel' := 4) (.inl hb1) rfl (by kernel_rfl) ?_
    refine Reg.known 44 (v := .int .u64 (IntKind.u64.wrap (a * a))) (.int .u64 (a * a)) (by kernel_rfl) (by rw [wrap_u64 (by omega) (by omega)]) ?_
    refine Reg.step 11 (by kernel_rfl) (One.load 0 (t := 27) (off := 0) (v := Value.int IntKind.u64 0) hs2 rfl (by kernel_rfl) (by kernel_rfl) ?_)
    have hb2 := Sat.holds hs2 [0, 1] (B := [cel b2 46 [Value.int IntKind.u64 0, Value.int IntKind.u64 0, Value.int IntKind.u64 0, Value.int IntKind.u64 0, Value.int IntKind.u64 0, Value.int IntKind.u64 0], cel b1 46 [Value.int IntKind.u64 a, Value.int IntKind.u64 h, Value.int IntKind.u64 0, Value.int IntKind.u64 0, Value.int IntKind.u64 0, Value.int IntKind.u64 0]]) rfl
    refine ⟨.inl hb2, ?_⟩
    refine Reg.pures [12] (fuel' := 2) (.inl hb2) rfl (by kernel_rfl) ?_
    refine Reg.known 50 (v := .int .u64 (IntKind.u64.wrap (a * a + 0))) (.int .u64 (a * a + 0)) (by kernel_rfl) (by rw [wrap_u64 (by omega) (by omega)]) ?_
    refine Reg.pures [14] (fuel' := 1) (.inl hb2) rfl (by kernel_rfl) ?_
    refine Reg.known 52 (v := .int .u64 (IntKind.u64.wrap (a * a + 0 + 0))) (.int .u64 (a * a + 0 + 0)) (by kernel_rfl) (by rw [wrap_u64 (by omega) (by omega)]) ?_
    refine Reg.pures [15] (fuel' := 0) (.inl hb2) rfl (by kernel_rfl) ?_
    refine Reg.done (by kernel_rfl) ?_
    refine To.run 7 ?_
    refine To.known 57 _ (by kernel_rfl) (Q_rem (a * a + 0 + 0) (4294967296) (by first | decide | omega)) ?_
    refine To.run 1 ?_
    refine To.one (One.store 0 (t := 27) (off := 0) (v := Value.int IntKind.u64 ((a * a + 0 + 0) % 4294967296)) (vs' := [Value.int IntKind.u64 ((a * a + 0 + 0) % 4294967296), Value.int IntKind.u64 0, Value.int IntKind.u64 0, Value.int IntKind.u64 0, Value.int IntKind.u64 0, Value.int IntKind.u64 0]) hs2 rfl (by kernel_rfl) (by kernel_rfl) (by kernel_rfl) fun w5 hs1 => ?_)
    simp only [List.set_cons_zero, List.set_cons_succ] at hs1
    clear hs2
    refine To.run 4 ?_
    refine To.known 60 _ (by kernel_rfl) (Q_shr (a * a + 0 + 0) (32) (4294967296) rfl (by first | decide | omega)) ?_
    refine To.run 8 ?_
    refine To.run 1 ?_
    refine To.at (fn := Try.f28) (n := 16) (l := [(0, Value.int IntKind.u64 x), (1, Value.int IntKind.u64 p), (6, Value.pointer (some { block := b1, off := 0 : Addr })), (7, Value.pointer (some { block := b2, off := 0 : Addr })), (8, Value.int IntKind.i64 0), (9, Value.int IntKind.u64 ((a * a + 0 + 0) / 4294967296)), (10, Value.int IntKind.i64 1)]) (by kernel_rfl) fun j => ?_
    obtain ⟨r0, gr0⟩ : ∃ r, (a * a + 0 + 0) % 4294967296 = r := ⟨_, rfl⟩
    first | rw [gr0] at hs1 | rw [gr0] at hs2 | rw [gr0] at hs3
    obtain ⟨c0, gc0⟩ : ∃ r, (a * a + 0 + 0) / 4294967296 = r := ⟨_, rfl⟩
    rw [gc0]
    have e0 : r0 + 4294967296 * c0 = a * a + 0 + 0 := by omega
    have bd0 : 0 ≤ r0 ∧ r0 ≤ 4294967295 ∧ 0 ≤ c0 ∧ c0 ≤ 4294967295 := by omega
    clear gr0 gc0
    have m1 := mulB (u := a) (v := h) (M := 4294967295) (N := 4294967295) (by omega) (by omega) (by omega) (by omega)
    refine To.run 11 ?_
    refine To.draw [cel b2 46 [Value.int IntKind.u64 r0, Value.int IntKind.u64 0, Value.int IntKind.u64 0, Value.int IntKind.u64 0, Value.int IntKind.u64 0, Value.int IntKind.u64 0], cel b1 46 [Value.int IntKind.u64 a, Value.int IntKind.u64 h, Value.int IntKind.u64 0, Value.int IntKind.u64 0, Value.int IntKind.u64 0, Value.int IntKind.u64 0]] [] 16 hs1 (by kernel_rfl) (by kernel_rfl) (by kernel_rfl) fun w6 hs2 => ?_
    clear hs1
    have hb3 := Sat.holds hs2 [0, 1] rfl
    refine Reg.pures [0, 1, 3, 4, 7, 8, 9, 10, 13] (fuel' := 7) (.inl hb3) rfl (by kernel_rfl) ?_
    refine Reg.load 2 1 (t := 27) (off := 0) (v := Value.int IntKind.u64 a) (.inl hb3) rfl (by kernel_rfl) (by kernel_rfl) (by kernel_rfl) ?_
    refine Reg.load 5 1 (t := 27) (off := 1) (v := Value.int IntKind.u64 h) (.inl hb3) rfl (by kernel_rfl) (by kernel_rfl) (by kernel_rfl) ?_
    refine Reg.pures [6] (fuel' := 4) (.inl hb3) rfl (by kernel_rfl) ?_
    refine Reg.known 44 (v := .int .u64 (IntKind.u64.wrap (a * h))) (.int .u64 (a * h)) (by kernel_rfl) (by rw [wrap_u64 (by omega) (by omega)]) ?_
    refine Reg.step 11 (by kernel_rfl) (One.load 0 (t := 27) (off := 1) (v := Value.int IntKind.u64 0) hs2 rfl (by kernel_rfl) (by kernel_rfl) ?_)
    have hb4 := Sat.holds hs2 [0, 1] (B := [cel b2 46 [Value.int IntKind.u64 r0, Value.int IntKind.u64 0, Value.int IntKind.u64 0, Value.int IntKind.u64 0, Value.int IntKind.u64 0, Value.int IntKind.u64 0], cel b1 46 [Value.int IntKind.u64 a, Value.int IntKind.u64 h, Value.int IntKind.u64 0, Value.int IntKind.u64 0, Value.int IntKind.u64 0, Value.int IntKind.u64 0]]) rfl
    refine ⟨.inl hb4, ?_⟩
    refine Reg.pures [12] (fuel' := 2) (.inl hb4) rfl (by kernel_rfl) ?_
    refine Reg.known 50 (v := .int .u64 (IntKind.u64.wrap (a * h + 0))) (.int .u64 (a * h + 0)) (by kernel_rfl) (by rw [wrap_u64 (by omega) (by omega)]) ?_
    refine Reg.pures [14] (fuel' := 1) (.inl hb4) rfl (by kernel_rfl) ?_
    refine Reg.known 52 (v := .int .u64 (IntKind.u64.wrap (a * h + 0 + c0))) (.int .u64 (a * h + 0 + c0)) (by kernel_rfl) (by rw [wrap_u64 (by omega) (by omega)]) ?_
    refine Reg.pures [15] (fuel' := 0) (.inl hb4) rfl (by kernel_rfl) ?_
    refine Reg.done (by kernel_rfl) ?_
    refine To.run 7 ?_
    refine To.known 57 _ (by kernel_rfl) (Q_rem (a * h + 0 + c0) (4294967296) (by first | decide | omega)) ?_
    refine To.run 1 ?_
    refine To.one (One.store 0 (t := 27) (off := 1) (v := Value.int IntKind.u64 ((a * h + 0 + c0) % 4294967296)) (vs' := [Value.int IntKind.u64 r0, Value.int IntKind.u64 ((a * h + 0 + c0) % 4294967296), Value.int IntKind.u64 0, Value.int IntKind.u64 0, Value.int IntKind.u64 0, Value.int IntKind.u64 0]) hs2 rfl (by kernel_rfl) (by kernel_rfl) (by kernel_rfl) fun w7 hs1 => ?_)
    simp only [List.set_cons_zero, List.set_cons_succ] at hs1
    clear hs2
    refine To.run 4 ?_
    refine To.known 60 _ (by kernel_rfl) (Q_shr (a * h + 0 + c0) (32) (4294967296) rfl (by first | decide | omega)) ?_
    refine To.run 8 ?_
    refine To.run 1 ?_
    refine To.at (fn := Try.f28) (n := 16) (l := [(0, Value.int IntKind.u64 x), (1, Value.int IntKind.u64 p), (6, Value.pointer (some { block := b1, off := 0 : Addr })), (7, Value.pointer (some { block := b2, off := 0 : Addr })), (8, Value.int IntKind.i64 0), (9, Value.int IntKind.u64 ((a * h + 0 + c0) / 4294967296)), (10, Value.int IntKind.i64 2)]) (by kernel_rfl) fun j => ?_
    obtain ⟨r1, gr1⟩ : ∃ r, (a * h + 0 + c0) % 4294967296 = r := ⟨_, rfl⟩
    first | rw [gr1] at hs1 | rw [gr1] at hs2 | rw [gr1] at hs3
    obtain ⟨c1, gc1⟩ : ∃ r, (a * h + 0 + c0) / 4294967296 = r := ⟨_, rfl⟩
    rw [gc1]
    have e1 : r1 + 4294967296 * c1 = a * h + 0 + c0 := by omega
    have bd1 : 0 ≤ r1 ∧ r1 ≤ 4294967295 ∧ 0 ≤ c1 ∧ c1 ≤ 4294967295 := by omega
    clear gr1 gc1
    refine To.run 14 ?_
    refine To.one (One.load 0 (t := 27) (off := 2) (v := Value.int IntKind.u64 0) hs1 rfl (by kernel_rfl) (by kernel_rfl) ?_)
    refine To.run 2 ?_
    refine To.known 68 (v := .int .u64 (IntKind.u64.wrap (0 + c1))) (.int .u64 (0 + c1)) (by kernel_rfl) (by rw [wrap_u64 (by omega) (by omega)]) ?_
    refine To.run 1 ?_
    refine To.one (One.store 0 (t := 27) (off := 2) (v := Value.int IntKind.u64 (0 + c1)) (vs' := [Value.int IntKind.u64 r0, Value.int IntKind.u64 r1, Value.int IntKind.u64 (0 + c1), Value.int IntKind.u64 0, Value.int IntKind.u64 0, Value.int IntKind.u64 0]) hs1 rfl (by kernel_rfl) (by kernel_rfl) (by kernel_rfl) fun w8 hs2 => ?_)
    simp only [List.set_cons_zero, List.set_cons_succ] at hs2
    clear hs1
    refine To.run 7 ?_
    refine To.run 1 ?_
    refine To.at (fn := Try.f28) (n := 9) (l := [(0, Value.int IntKind.u64 x), (1, Value.int IntKind.u64 p), (6, Value.pointer (some { block := b1, off := 0 : Addr })), (7, Value.pointer (some { block := b2, off := 0 : Addr })), (8, Value.int IntKind.i64 1)]) (by kernel_rfl) fun j => ?_
    obtain ⟨s2, gs2⟩ : ∃ r, 0 + c1 = r := ⟨_, rfl⟩
    first | rw [gs2] at hs1 | rw [gs2] at hs2 | rw [gs2] at hs3
    have bd2 : 0 ≤ s2 ∧ s2 ≤ 4294967296 ∧ s2 = 0 + c1 := by omega
    clear gs2
    refine To.run 20 ?_
    refine To.run 1 ?_
    refine To.at (fn := Try.f28) (n := 16) (l := [(0, Value.int IntKind.u64 x), (1, Value.int IntKind.u64 p), (6, Value.pointer (some { block := b1, off := 0 : Addr })), (7, Value.pointer (some { block := b2, off := 0 : Addr })), (8, Value.int IntKind.i64 1), (9, Value.int IntKind.u64 0), (10, Value.int IntKind.i64 0)]) (by kernel_rfl) fun j => ?_
    have m3 := mulB (u := h) (v := a) (M := 4294967295) (N := 4294967295) (by omega) (by omega) (by omega) (by omega)
    refine To.run 11 ?_
    refine To.draw [cel b2 46 [Value.int IntKind.u64 r0, Value.int IntKind.u64 r1, Value.int IntKind.u64 s2, Value.int IntKind.u64 0, Value.int IntKind.u64 0, Value.int IntKind.u64 0], cel b1 46 [Value.int IntKind.u64 a, Value.int IntKind.u64 h, Value.int IntKind.u64 0, Value.int IntKind.u64 0, Value.int IntKind.u64 0, Value.int IntKind.u64 0]] [] 16 hs2 (by kernel_rfl) (by kernel_rfl) (by kernel_rfl) fun w9 hs1 => ?_
    clear hs2
    have hb5 := Sat.holds hs1 [0, 1] rfl
    refine Reg.pures [0, 1, 3, 4, 7, 8, 9, 10, 13] (fuel' := 7) (.inl hb5) rfl (by kernel_rfl) ?_
    refine Reg.load 2 1 (t := 27) (off := 1) (v := Value.int IntKind.u64 h) (.inl hb5) rfl (by kernel_rfl) (by kernel_rfl) (by kernel_rfl) ?_
    refine Reg.load 5 1 (t := 27) (off := 0) (v := Value.int IntKind.u64 a) (.inl hb5) rfl (by kernel_rfl) (by kernel_rfl) (by kernel_rfl) ?_
    refine Reg.pures [6] (fuel' := 4) (.inl hb5) rfl (by kernel_rfl) ?_
    refine Reg.known 44 (v := .int .u64 (IntKind.u64.wrap (h * a))) (.int .u64 (h * a)) (by kernel_rfl) (by rw [wrap_u64 (by omega) (by omega)]) ?_
    refine Reg.step 11 (by kernel_rfl) (One.load 0 (t := 27) (off := 1) (v := Value.int IntKind.u64 r1) hs1 rfl (by kernel_rfl) (by kernel_rfl) ?_)
    have hb6 := Sat.holds hs1 [0, 1] (B := [cel b2 46 [Value.int IntKind.u64 r0, Value.int IntKind.u64 r1, Value.int IntKind.u64 s2, Value.int IntKind.u64 0, Value.int IntKind.u64 0, Value.int IntKind.u64 0], cel b1 46 [Value.int IntKind.u64 a, Value.int IntKind.u64 h, Value.int IntKind.u64 0, Value.int IntKind.u64 0, Value.int IntKind.u64 0, Value.int IntKind.u64 0]]) rfl
    refine ⟨.inl hb6, ?_⟩
    refine Reg.pures [12] (fuel' := 2) (.inl hb6) rfl (by kernel_rfl) ?_
    refine Reg.known 50 (v := .int .u64 (IntKind.u64.wrap (h * a + r1))) (.int .u64 (h * a + r1)) (by kernel_rfl) (by rw [wrap_u64 (by omega) (by omega)]) ?_
    refine Reg.pures [14] (fuel' := 1) (.inl hb6) rfl (by kernel_rfl) ?_
    refine Reg.known 52 (v := .int .u64 (IntKind.u64.wrap (h * a + r1 + 0))) (.int .u64 (h * a + r1 + 0)) (by kernel_rfl) (by rw [wrap_u64 (by omega) (by omega)]) ?_
    refine Reg.pures [15] (fuel' := 0) (.inl hb6) rfl (by kernel_rfl) ?_
    refine Reg.done (by kernel_rfl) ?_
    refine To.run 7 ?_
    refine To.known 57 _ (by kernel_rfl) (Q_rem (h * a + r1 + 0) (4294967296) (by first | decide | omega)) ?_
    refine To.run 1 ?_
    refine To.one (One.store 0 (t := 27) (off := 1) (v := Value.int IntKind.u64 ((h * a + r1 + 0) % 4294967296)) (vs' := [Value.int IntKind.u64 r0, Value.int IntKind.u64 ((h * a + r1 + 0) % 4294967296), Value.int IntKind.u64 s2, Value.int IntKind.u64 0, Value.int IntKind.u64 0, Value.int IntKind.u64 0]) hs1 rfl (by kernel_rfl) (by kernel_rfl) (by kernel_rfl) fun w10 hs2 => ?_)
    simp only [List.set_cons_zero, List.set_cons_succ] at hs2
    clear hs1
    refine To.run 4 ?_
    refine To.known 60 _ (by kernel_rfl) (Q_shr (h * a + r1 + 0) (32) (4294967296) rfl (by first | decide | omega)) ?_
    refine To.run 8 ?_
    refine To.run 1 ?_
    refine To.at (fn := Try.f28) (n := 16) (l := [(0, Value.int IntKind.u64 x), (1, Value.int IntKind.u64 p), (6, Value.pointer (some { block := b1, off := 0 : Addr })), (7, Value.pointer (some { block := b2, off := 0 : Addr })), (8, Value.int IntKind.i64 1), (9, Value.int IntKind.u64 ((h * a + r1 + 0) / 4294967296)), (10, Value.int IntKind.i64 1)]) (by kernel_rfl) fun j => ?_
    obtain ⟨r3, gr3⟩ : ∃ r, (h * a + r1 + 0) % 4294967296 = r := ⟨_, rfl⟩
    first | rw [gr3] at hs1 | rw [gr3] at hs2 | rw [gr3] at hs3
    obtain ⟨c3, gc3⟩ : ∃ r, (h * a + r1 + 0) / 4294967296 = r := ⟨_, rfl⟩
    rw [gc3]
    have e3 : r3 + 4294967296 * c3 = h * a + r1 + 0 := by omega
    have bd3 : 0 ≤ r3 ∧ r3 ≤ 4294967295 ∧ 0 ≤ c3 ∧ c3 ≤ 4294967295 := by omega
    clear gr3 gc3
    have m4 := mulB (u := h) (v := h) (M := 4294967295) (N := 4294967295) (by omega) (by omega) (by omega) (by omega)
    refine To.run 11 ?_
    refine To.draw [cel b2 46 [Value.int IntKind.u64 r0, Value.int IntKind.u64 r3, Value.int IntKind.u64 s2, Value.int IntKind.u64 0, Value.int IntKind.u64 0, Value.int IntKind.u64 0], cel b1 46 [Value.int IntKind.u64 a, Value.int IntKind.u64 h, Value.int IntKind.u64 0, Value.int IntKind.u64 0, Value.int IntKind.u64 0, Value.int IntKind.u64 0]] [] 16 hs2 (by kernel_rfl) (by kernel_rfl) (by kernel_rfl) fun w11 hs1 => ?_
    clear hs2
    have hb7 := Sat.holds hs1 [0, 1] rfl
    refine Reg.pures [0, 1, 3, 4, 7, 8, 9, 10, 13] (fuel' := 7) (.inl hb7) rfl (by kernel_rfl) ?_
    refine Reg.load 2 1 (t := 27) (off := 1) (v := Value.int IntKind.u64 h) (.inl hb7) rfl (by kernel_rfl) (by kernel_rfl) (by kernel_rfl) ?_
    refine Reg.load 5 1 (t := 27) (off := 1) (v := Value.int IntKind.u64 h) (.inl hb7) rfl (by kernel_rfl) (by kernel_rfl) (by kernel_rfl) ?_
    refine Reg.pures [6] (fuel' := 4) (.inl hb7) rfl (by kernel_rfl) ?_
    refine Reg.known 44 (v := .int .u64 (IntKind.u64.wrap (h * h))) (.int .u64 (h * h)) (by kernel_rfl) (by rw [wrap_u64 (by omega) (by omega)]) ?_
    refine Reg.step 11 (by kernel_rfl) (One.load 0 (t := 27) (off := 2) (v := Value.int IntKind.u64 s2) hs1 rfl (by kernel_rfl) (by kernel_rfl) ?_)
    have hb8 := Sat.holds hs1 [0, 1] (B := [cel b2 46 [Value.int IntKind.u64 r0, Value.int IntKind.u64 r3, Value.int IntKind.u64 s2, Value.int IntKind.u64 0, Value.int IntKind.u64 0, Value.int IntKind.u64 0], cel b1 46 [Value.int IntKind.u64 a, Value.int IntKind.u64 h, Value.int IntKind.u64 0, Value.int IntKind.u64 0, Value.int IntKind.u64 0, Value.int IntKind.u64 0]]) rfl
    refine ⟨.inl hb8, ?_⟩
    refine Reg.pures [12] (fuel' := 2) (.inl hb8) rfl (by kernel_rfl) ?_
    refine Reg.known 50 (v := .int .u64 (IntKind.u64.wrap (h * h + s2))) (.int .u64 (h * h + s2)) (by kernel_rfl) (by rw [wrap_u64 (by omega) (by omega)]) ?_
    refine Reg.pures [14] (fuel' := 1) (.inl hb8) rfl (by kernel_rfl) ?_
    refine Reg.known 52 (v := .int .u64 (IntKind.u64.wrap (h * h + s2 + c3))) (.int .u64 (h * h + s2 + c3)) (by kernel_rfl) (by rw [wrap_u64 (by omega) (by omega)]) ?_
    refine Reg.pures [15] (fuel' := 0) (.inl hb8) rfl (by kernel_rfl) ?_
    refine Reg.done (by kernel_rfl) ?_
    refine To.run 7 ?_
    refine To.known 57 _ (by kernel_rfl) (Q_rem (h * h + s2 + c3) (4294967296) (by first | decide | omega)) ?_
    refine To.run 1 ?_
    refine To.one (One.store 0 (t := 27) (off := 2) (v := Value.int IntKind.u64 ((h * h + s2 + c3) % 4294967296)) (vs' := [Value.int IntKind.u64 r0, Value.int IntKind.u64 r3, Value.int IntKind.u64 ((h * h + s2 + c3) % 4294967296), Value.int IntKind.u64 0, Value.int IntKind.u64 0, Value.int IntKind.u64 0]) hs1 rfl (by kernel_rfl) (by kernel_rfl) (by kernel_rfl) fun w12 hs2 => ?_)
    simp only [List.set_cons_zero, List.set_cons_succ] at hs2
    clear hs1
    refine To.run 4 ?_
    refine To.known 60 _ (by kernel_rfl) (Q_shr (h * h + s2 + c3) (32) (4294967296) rfl (by first | decide | omega)) ?_
    refine To.run 8 ?_
    refine To.run 1 ?_
    refine To.at (fn := Try.f28) (n := 16) (l := [(0, Value.int IntKind.u64 x), (1, Value.int IntKind.u64 p), (6, Value.pointer (some { block := b1, off := 0 : Addr })), (7, Value.pointer (some { block := b2, off := 0 : Addr })), (8, Value.int IntKind.i64 1), (9, Value.int IntKind.u64 ((h * h + s2 + c3) / 4294967296)), (10, Value.int IntKind.i64 2)]) (by kernel_rfl) fun j => ?_
    obtain ⟨r4, gr4⟩ : ∃ r, (h * h + s2 + c3) % 4294967296 = r := ⟨_, rfl⟩
    first | rw [gr4] at hs1 | rw [gr4] at hs2 | rw [gr4] at hs3
    obtain ⟨c4, gc4⟩ : ∃ r, (h * h + s2 + c3) / 4294967296 = r := ⟨_, rfl⟩
    rw [gc4]
    have e4 : r4 + 4294967296 * c4 = h * h + s2 + c3 := by omega
    have bd4 : 0 ≤ r4 ∧ r4 ≤ 4294967295 ∧ 0 ≤ c4 ∧ c4 ≤ 4294967295 := by omega
    clear gr4 gc4
    refine To.run 14 ?_
    refine To.one (One.load 0 (t := 27) (off := 3) (v := Value.int IntKind.u64 0) hs2 rfl (by kernel_rfl) (by kernel_rfl) ?_)
    refine To.run 2 ?_
    refine To.known 68 (v := .int .u64 (IntKind.u64.wrap (0 + c4))) (.int .u64 (0 + c4)) (by kernel_rfl) (by rw [wrap_u64 (by omega) (by omega)]) ?_
    refine To.run 1 ?_
    refine To.one (One.store 0 (t := 27) (off := 3) (v := Value.int IntKind.u64 (0 + c4)) (vs' := [Value.int IntKind.u64 r0, Value.int IntKind.u64 r3, Value.int IntKind.u64 r4, Value.int IntKind.u64 (0 + c4), Value.int IntKind.u64 0, Value.int IntKind.u64 0]) hs2 rfl (by kernel_rfl) (by kernel_rfl) (by kernel_rfl) fun w13 hs1 => ?_)
    simp only [List.set_cons_zero, List.set_cons_succ] at hs1
    clear hs2
    refine To.run 7 ?_
    refine To.run 1 ?_
    refine To.at (fn := Try.f28) (n := 9) (l := [(0, Value.int IntKind.u64 x), (1, Value.int IntKind.u64 p), (6, Value.pointer (some { block := b1, off := 0 : Addr })), (7, Value.pointer (some { block := b2, off := 0 : Addr })), (8, Value.int IntKind.i64 2)]) (by kernel_rfl) fun j => ?_
    obtain ⟨s5, gs5⟩ : ∃ r, 0 + c4 = r := ⟨_, rfl⟩
    first | rw [gs5] at hs1 | rw [gs5] at hs2 | rw [gs5] at hs3
    have bd5 : 0 ≤ s5 ∧ s5 ≤ 4294967296 ∧ s5 = 0 + c4 := by omega
    clear gs5
    refine To.run 10 ?_
    refine To.one (One.alloc (t := 46) [Value.int IntKind.u64 0, Value.int IntKind.u64 0, Value.int IntKind.u64 0, Value.int IntKind.u64 0, Value.int IntKind.u64 0, Value.int IntKind.u64 0] hs1 (by kernel_rfl) (by kernel_rfl) fun b3 w14 hs2 => ?_)
    clear hs1
    refine To.run 7 ?_
    refine To.run 1 ?_
    refine To.at (fn := Try.f28) (n := 25) (l := [(0, Value.int IntKind.u64 x), (1, Value.int IntKind.u64 p), (6, Value.pointer (some { block := b1, off := 0 : Addr })), (7, Value.pointer (some { block := b2, off := 0 : Addr })), (12, Value.pointer (some { block := b3, off := 0 : Addr })), (13, Value.int IntKind.i64 0)]) (by kernel_rfl) fun j => ?_
    refine To.run 20 ?_
    refine To.run 1 ?_
    refine To.at (fn := Try.f28) (n := 32) (l := [(0, Value.int IntKind.u64 x), (1, Value.int IntKind.u64 p), (6, Value.pointer (some { block := b1, off := 0 : Addr })), (7, Value.pointer (some { block := b2, off := 0 : Addr })), (12, Value.pointer (some { block := b3, off := 0 : Addr })), (13, Value.int IntKind.i64 0), (14, Value.int IntKind.u64 0), (15, Value.int IntKind.i64 0)]) (by kernel_rfl) fun j => ?_
    have m6 := mulB (u := r0) (v := a) (M := 4294967295) (N := 4294967295) (by omega) (by omega) (by omega) (by omega)
    refine To.run 11 ?_
    refine To.draw [cel b3 46 [Value.int IntKind.u64 0, Value.int IntKind.u64 0, Value.int IntKind.u64 0, Value.int IntKind.u64 0, Value.int IntKind.u64 0, Value.int IntKind.u64 0], cel b2 46 [Value.int IntKind.u64 r0, Value.int IntKind.u64 r3, Value.int IntKind.u64 r4, Value.int IntKind.u64 s5, Value.int IntKind.u64 0, Value.int IntKind.u64 0], cel b1 46 [Value.int IntKind.u64 a, Value.int IntKind.u64 h, Value.int IntKind.u64 0, Value.int IntKind.u64 0, Value.int IntKind.u64 0, Value.int IntKind.u64 0]] [] 16 hs2 (by kernel_rfl) (by kernel_rfl) (by kernel_rfl) fun w15 hs1 => ?_
    clear hs2
    have hb9 := Sat.holds hs1 [0, 1, 2] rfl
    refine Reg.pures [0, 1, 3, 4, 7, 8, 9, 10, 13] (fuel' := 7) (.inl hb9) rfl (by kernel_rfl) ?_
    refine Reg.load 2 1 (t := 27) (off := 0) (v := Value.int IntKind.u64 r0) (.inl hb9) rfl (by kernel_rfl) (by kernel_rfl) (by kernel_rfl) ?_
    refine Reg.load 5 2 (t := 27) (off := 0) (v := Value.int IntKind.u64 a) (.inl hb9) rfl (by kernel_rfl) (by kernel_rfl) (by kernel_rfl) ?_
    refine Reg.pures [6] (fuel' := 4) (.inl hb9) rfl (by kernel_rfl) ?_
    refine Reg.known 84 (v := .int .u64 (IntKind.u64.wrap (r0 * a))) (.int .u64 (r0 * a)) (by kernel_rfl) (by rw [wrap_u64 (by omega) (by omega)]) ?_
    refine Reg.step 11 (by kernel_rfl) (One.load 0 (t := 27) (off := 0) (v := Value.int IntKind.u64 0) hs1 rfl (by kernel_rfl) (by kernel_rfl) ?_)
    have hb10 := Sat.holds hs1 [0, 1, 2] (B := [cel b3 46 [Value.int IntKind.u64 0, Value.int IntKind.u64 0, Value.int IntKind.u64 0, Value.int IntKind.u64 0, Value.int IntKind.u64 0, Value.int IntKind.u64 0], cel b2 46 [Value.int IntKind.u64 r0, Value.int IntKind.u64 r3, Value.int IntKind.u64 r4, Value.int IntKind.u64 s5, Value.int IntKind.u64 0, Value.int IntKind.u64 0], cel b1 46 [Value.int IntKind.u64 a, Value.int IntKind.u64 h, Value.int IntKind.u64 0, Value.int IntKind.u64 0, Value.int IntKind.u64 0, Value.int IntKind.u64 0]]) rfl
    refine ⟨.inl hb10, ?_⟩
    refine Reg.pures [12] (fuel' := 2) (.inl hb10) rfl (by kernel_rfl) ?_
    refine Reg.known 90 (v := .int .u64 (IntKind.u64.wrap (r0 * a + 0))) (.int .u64 (r0 * a + 0)) (by kernel_rfl) (by rw [wrap_u64 (by omega) (by omega)]) ?_
    refine Reg.pures [14] (fuel' := 1) (.inl hb10) rfl (by kernel_rfl) ?_
    refine Reg.known 92 (v := .int .u64 (IntKind.u64.wrap (r0 * a + 0 + 0))) (.int .u64 (r0 * a + 0 + 0)) (by kernel_rfl) (by rw [wrap_u64 (by omega) (by omega)]) ?_
    refine Reg.pures [15] (fuel' := 0) (.inl hb10) rfl (by kernel_rfl) ?_
    refine Reg.done (by kernel_rfl) ?_
    refine To.run 7 ?_
    refine To.known 97 _ (by kernel_rfl) (Q_rem (r0 * a + 0 + 0) (4294967296) (by first | decide | omega)) ?_
    refine To.run 1 ?_
    refine To.one (One.store 0 (t := 27) (off := 0) (v := Value.int IntKind.u64 ((r0 * a + 0 + 0) % 4294967296)) (vs' := [Value.int IntKind.u64 ((r0 * a + 0 + 0) % 4294967296), Value.int IntKind.u64 0, Value.int IntKind.u64 0, Value.int IntKind.u64 0, Value.int IntKind.u64 0, Value.int IntKind.u64 0]) hs1 rfl (by kernel_rfl) (by kernel_rfl) (by kernel_rfl) fun w16 hs2 => ?_)
    simp only [List.set_cons_zero, List.set_cons_succ] at hs2
    clear hs1
    refine To.run 4 ?_
    refine To.known 100 _ (by kernel_rfl) (Q_shr (r0 * a + 0 + 0) (32) (4294967296) rfl (by first | decide | omega)) ?_
    refine To.run 8 ?_
    refine To.run 1 ?_
    refine To.at (fn := Try.f28) (n := 32) (l := [(0, Value.int IntKind.u64 x), (1, Value.int IntKind.u64 p), (6, Value.pointer (some { block := b1, off := 0 : Addr })), (7, Value.pointer (some { block := b2, off := 0 : Addr })), (12, Value.pointer (some { block := b3, off := 0 : Addr })), (13, Value.int IntKind.i64 0), (14, Value.int IntKind.u64 ((r0 * a + 0 + 0) / 4294967296)), (15, Value.int IntKind.i64 1)]) (by kernel_rfl) fun j => ?_
    obtain ⟨r6, gr6⟩ : ∃ r, (r0 * a + 0 + 0) % 4294967296 = r := ⟨_, rfl⟩
    first | rw [gr6] at hs1 | rw [gr6] at hs2 | rw [gr6] at hs3
    obtain ⟨c6, gc6⟩ : ∃ r, (r0 * a + 0 + 0) / 4294967296 = r := ⟨_, rfl⟩
    rw [gc6]
    have e6 : r6 + 4294967296 * c6 = r0 * a + 0 + 0 := by omega
    have bd6 : 0 ≤ r6 ∧ r6 ≤ 4294967295 ∧ 0 ≤ c6 ∧ c6 ≤ 4294967295 := by omega
    clear gr6 gc6
    have m7 := mulB (u := r0) (v := h) (M := 4294967295) (N := 4294967295) (by omega) (by omega) (by omega) (by omega)
    refine To.run 11 ?_
    refine To.draw [cel b3 46 [Value.int IntKind.u64 r6, Value.int IntKind.u64 0, Value.int IntKind.u64 0, Value.int IntKind.u64 0, Value.int IntKind.u64 0, Value.int IntKind.u64 0], cel b2 46 [Value.int IntKind.u64 r0, Value.int IntKind.u64 r3, Value.int IntKind.u64 r4, Value.int IntKind.u64 s5, Value.int IntKind.u64 0, Value.int IntKind.u64 0], cel b1 46 [Value.int IntKind.u64 a, Value.int IntKind.u64 h, Value.int IntKind.u64 0, Value.int IntKind.u64 0, Value.int IntKind.u64 0, Value.int IntKind.u64 0]] [] 16 hs2 (by kernel_rfl) (by kernel_rfl) (by kernel_rfl) fun w17 hs1 => ?_
    clear hs2
    have hb11 := Sat.holds hs1 [0, 1, 2] rfl
    refine Reg.pures [0, 1, 3, 4, 7, 8, 9, 10, 13] (fuel' := 7) (.inl hb11) rfl (by kernel_rfl) ?_
    refine Reg.load 2 1 (t := 27) (off := 0) (v := Value.int IntKind.u64 r0) (.inl hb11) rfl (by kernel_rfl) (by kernel_rfl) (by kernel_rfl) ?_
    refine Reg.load 5 2 (t := 27) (off := 1) (v := Value.int IntKind.u64 h) (.inl hb11) rfl (by kernel_rfl) (by kernel_rfl) (by kernel_rfl) ?_
    refine Reg.pures [6] (fuel' := 4) (.inl hb11) rfl (by kernel_rfl) ?_
    refine Reg.known 84 (v := .int .u64 (IntKind.u64.wrap (r0 * h))) (.int .u64 (r0 * h)) (by kernel_rfl) (by rw [wrap_u64 (by omega) (by omega)]) ?_
    refine Reg.step 11 (by kernel_rfl) (One.load 0 (t := 27) (off := 1) (v := Value.int IntKind.u64 0) hs1 rfl (by kernel_rfl) (by kernel_rfl) ?_)
    have hb12 := Sat.holds hs1 [0, 1, 2] (B := [cel b3 46 [Value.int IntKind.u64 r6, Value.int IntKind.u64 0, Value.int IntKind.u64 0, Value.int IntKind.u64 0, Value.int IntKind.u64 0, Value.int IntKind.u64 0], cel b2 46 [Value.int IntKind.u64 r0, Value.int IntKind.u64 r3, Value.int IntKind.u64 r4, Value.int IntKind.u64 s5, Value.int IntKind.u64 0, Value.int IntKind.u64 0], cel b1 46 [Value.int IntKind.u64 a, Value.int IntKind.u64 h, Value.int IntKind.u64 0, Value.int IntKind.u64 0, Value.int IntKind.u64 0, Value.int IntKind.u64 0]]) rfl
    refine ⟨.inl hb12, ?_⟩
    refine Reg.pures [12] (fuel' := 2) (.inl hb12) rfl (by kernel_rfl) ?_
    refine Reg.known 90 (v := .int .u64 (IntKind.u64.wrap (r0 * h + 0))) (.int .u64 (r0 * h + 0)) (by kernel_rfl) (by rw [wrap_u64 (by omega) (by omega)]) ?_
    refine Reg.pures [14] (fuel' := 1) (.inl hb12) rfl (by kernel_rfl) ?_
    refine Reg.known 92 (v := .int .u64 (IntKind.u64.wrap (r0 * h + 0 + c6))) (.int .u64 (r0 * h + 0 + c6)) (by kernel_rfl) (by rw [wrap_u64 (by omega) (by omega)]) ?_
    refine Reg.pures [15] (fuel' := 0) (.inl hb12) rfl (by kernel_rfl) ?_
    refine Reg.done (by kernel_rfl) ?_
    refine To.run 7 ?_
    refine To.known 97 _ (by kernel_rfl) (Q_rem (r0 * h + 0 + c6) (4294967296) (by first | decide | omega)) ?_
    refine To.run 1 ?_
    refine To.one (One.store 0 (t := 27) (off := 1) (v := Value.int IntKind.u64 ((r0 * h + 0 + c6) % 4294967296)) (vs' := [Value.int IntKind.u64 r6, Value.int IntKind.u64 ((r0 * h + 0 + c6) % 4294967296), Value.int IntKind.u64 0, Value.int IntKind.u64 0, Value.int IntKind.u64 0, Value.int IntKind.u64 0]) hs1 rfl (by kernel_rfl) (by kernel_rfl) (by kernel_rfl) fun w18 hs2 => ?_)
    simp only [List.set_cons_zero, List.set_cons_succ] at hs2
    clear hs1
    refine To.run 4 ?_
    refine To.known 100 _ (by kernel_rfl) (Q_shr (r0 * h + 0 + c6) (32) (4294967296) rfl (by first | decide | omega)) ?_
    refine To.run 8 ?_
    refine To.run 1 ?_
    refine To.at (fn := Try.f28) (n := 32) (l := [(0, Value.int IntKind.u64 x), (1, Value.int IntKind.u64 p), (6, Value.pointer (some { block := b1, off := 0 : Addr })), (7, Value.pointer (some { block := b2, off := 0 : Addr })), (12, Value.pointer (some { block := b3, off := 0 : Addr })), (13, Value.int IntKind.i64 0), (14, Value.int IntKind.u64 ((r0 * h + 0 + c6) / 4294967296)), (15, Value.int IntKind.i64 2)]) (by kernel_rfl) fun j => ?_
    obtain ⟨r7, gr7⟩ : ∃ r, (r0 * h + 0 + c6) % 4294967296 = r := ⟨_, rfl⟩
    first | rw [gr7] at hs1 | rw [gr7] at hs2 | rw [gr7] at hs3
    obtain ⟨c7, gc7⟩ : ∃ r, (r0 * h + 0 + c6) / 4294967296 = r := ⟨_, rfl⟩
    rw [gc7]
    have e7 : r7 + 4294967296 * c7 = r0 * h + 0 + c6 := by omega
    have bd7 : 0 ≤ r7 ∧ r7 ≤ 4294967295 ∧ 0 ≤ c7 ∧ c7 ≤ 4294967295 := by omega
    clear gr7 gc7
    refine To.run 14 ?_
    refine To.one (One.load 0 (t := 27) (off := 2) (v := Value.int IntKind.u64 0) hs2 rfl (by kernel_rfl) (by kernel_rfl) ?_)
    refine To.run 2 ?_
    refine To.known 108 (v := .int .u64 (IntKind.u64.wrap (0 + c7))) (.int .u64 (0 + c7)) (by kernel_rfl) (by rw [wrap_u64 (by omega) (by omega)]) ?_
    refine To.run 1 ?_
    refine To.one (One.store 0 (t := 27) (off := 2) (v := Value.int IntKind.u64 (0 + c7)) (vs' := [Value.int IntKind.u64 r6, Value.int IntKind.u64 r7, Value.int IntKind.u64 (0 + c7), Value.int IntKind.u64 0, Value.int IntKind.u64 0, Value.int IntKind.u64 0]) hs2 rfl (by kernel_rfl) (by kernel_rfl) (by kernel_rfl) fun w19 hs1 => ?_)
    simp only [List.set_cons_zero, List.set_cons_succ] at hs1
    clear hs2
    refine To.run 7 ?_
    refine To.run 1 ?_
    refine To.at (fn := Try.f28) (n := 25) (l := [(0, Value.int IntKind.u64 x), (1, Value.int IntKind.u64 p), (6, Value.pointer (some { block := b1, off := 0 : Addr })), (7, Value.pointer (some { block := b2, off := 0 : Addr })), (12, Value.pointer (some { block := b3, off := 0 : Addr })), (13, Value.int IntKind.i64 1)]) (by kernel_rfl) fun j => ?_
    obtain ⟨s8, gs8⟩ : ∃ r, 0 + c7 = r := ⟨_, rfl⟩
    first | rw [gs8] at hs1 | rw [gs8] at hs2 | rw [gs8] at hs3
    have bd8 : 0 ≤ s8 ∧ s8 ≤ 4294967296 ∧ s8 = 0 + c7 := by omega
    clear gs8
    refine To.run 20 ?_
    refine To.run 1 ?_
    refine To.at (fn := Try.f28) (n := 32) (l := [(0, Value.int IntKind.u64 x), (1, Value.int IntKind.u64 p), (6, Value.pointer (some { block := b1, off := 0 : Addr })), (7, Value.pointer (some { block := b2, off := 0 : Addr })), (12, Value.pointer (some { block := b3, off := 0 : Addr })), (13, Value.int IntKind.i64 1), (14, Value.int IntKind.u64 0), (15, Value.int IntKind.i64 0)]) (by kernel_rfl) fun j => ?_
    have m9 := mulB (u := r3) (v := a) (M := 4294967295) (N := 4294967295) (by omega) (by omega) (by omega) (by omega)
    refine To.run 11 ?_
    refine To.draw [cel b3 46 [Value.int IntKind.u64 r6, Value.int IntKind.u64 r7, Value.int IntKind.u64 s8, Value.int IntKind.u64 0, Value.int IntKind.u64 0, Value.int IntKind.u64 0], cel b2 46 [Value.int IntKind.u64 r0, Value.int IntKind.u64 r3, Value.int IntKind.u64 r4, Value.int IntKind.u64 s5, Value.int IntKind.u64 0, Value.int IntKind.u64 0], cel b1 46 [Value.int IntKind.u64 a, Value.int IntKind.u64 h, Value.int IntKind.u64 0, Value.int IntKind.u64 0, Value.int IntKind.u64 0, Value.int IntKind.u64 0]] [] 16 hs1 (by kernel_rfl) (by kernel_rfl) (by kernel_rfl) fun w20 hs2 => ?_
    clear hs1
    have hb13 := Sat.holds hs2 [0, 1, 2] rfl
    refine Reg.pures [0, 1, 3, 4, 7, 8, 9, 10, 13] (fuel' := 7) (.inl hb13) rfl (by kernel_rfl) ?_
    refine Reg.load 2 1 (t := 27) (off := 1) (v := Value.int IntKind.u64 r3) (.inl hb13) rfl (by kernel_rfl) (by kernel_rfl) (by kernel_rfl) ?_
    refine Reg.load 5 2 (t := 27) (off := 0) (v := Value.int IntKind.u64 a) (.inl hb13) rfl (by kernel_rfl) (by kernel_rfl) (by kernel_rfl) ?_
    refine Reg.pures [6] (fuel' := 4) (.inl hb13) rfl (by kernel_rfl) ?_
    refine Reg.known 84 (v := .int .u64 (IntKind.u64.wrap (r3 * a))) (.int .u64 (r3 * a)) (by kernel_rfl) (by rw [wrap_u64 (by omega) (by omega)]) ?_
    refine Reg.step 11 (by kernel_rfl) (One.load 0 (t := 27) (off := 1) (v := Value.int IntKind.u64 r7) hs2 rfl (by kernel_rfl) (by kernel_rfl) ?_)
    have hb14 := Sat.holds hs2 [0, 1, 2] (B := [cel b3 46 [Value.int IntKind.u64 r6, Value.int IntKind.u64 r7, Value.int IntKind.u64 s8, Value.int IntKind.u64 0, Value.int IntKind.u64 0, Value.int IntKind.u64 0], cel b2 46 [Value.int IntKind.u64 r0, Value.int IntKind.u64 r3, Value.int IntKind.u64 r4, Value.int IntKind.u64 s5, Value.int IntKind.u64 0, Value.int IntKind.u64 0], cel b1 46 [Value.int IntKind.u64 a, Value.int IntKind.u64 h, Value.int IntKind.u64 0, Value.int IntKind.u64 0, Value.int IntKind.u64 0, Value.int IntKind.u64 0]]) rfl
    refine ⟨.inl hb14, ?_⟩
    refine Reg.pures [12] (fuel' := 2) (.inl hb14) rfl (by kernel_rfl) ?_
    refine Reg.known 90 (v := .int .u64 (IntKind.u64.wrap (r3 * a + r7))) (.int .u64 (r3 * a + r7)) (by kernel_rfl) (by rw [wrap_u64 (by omega) (by omega)]) ?_
    refine Reg.pures [14] (fuel' := 1) (.inl hb14) rfl (by kernel_rfl) ?_
    refine Reg.known 92 (v := .int .u64 (IntKind.u64.wrap (r3 * a + r7 + 0))) (.int .u64 (r3 * a + r7 + 0)) (by kernel_rfl) (by rw [wrap_u64 (by omega) (by omega)]) ?_
    refine Reg.pures [15] (fuel' := 0) (.inl hb14) rfl (by kernel_rfl) ?_
    refine Reg.done (by kernel_rfl) ?_
    refine To.run 7 ?_
    refine To.known 97 _ (by kernel_rfl) (Q_rem (r3 * a + r7 + 0) (4294967296) (by first | decide | omega)) ?_
    refine To.run 1 ?_
    refine To.one (One.store 0 (t := 27) (off := 1) (v := Value.int IntKind.u64 ((r3 * a + r7 + 0) % 4294967296)) (vs' := [Value.int IntKind.u64 r6, Value.int IntKind.u64 ((r3 * a + r7 + 0) % 4294967296), Value.int IntKind.u64 s8, Value.int IntKind.u64 0, Value.int IntKind.u64 0, Value.int IntKind.u64 0]) hs2 rfl (by kernel_rfl) (by kernel_rfl) (by kernel_rfl) fun w21 hs1 => ?_)
    simp only [List.set_cons_zero, List.set_cons_succ] at hs1
    clear hs2
    refine To.run 4 ?_
    refine To.known 100 _ (by kernel_rfl) (Q_shr (r3 * a + r7 + 0) (32) (4294967296) rfl (by first | decide | omega)) ?_
    refine To.run 8 ?_
    refine To.run 1 ?_
    refine To.at (fn := Try.f28) (n := 32) (l := [(0, Value.int IntKind.u64 x), (1, Value.int IntKind.u64 p), (6, Value.pointer (some { block := b1, off := 0 : Addr })), (7, Value.pointer (some { block := b2, off := 0 : Addr })), (12, Value.pointer (some { block := b3, off := 0 : Addr })), (13, Value.int IntKind.i64 1), (14, Value.int IntKind.u64 ((r3 * a + r7 + 0) / 4294967296)), (15, Value.int IntKind.i64 1)]) (by kernel_rfl) fun j => ?_
    obtain ⟨r9, gr9⟩ : ∃ r, (r3 * a + r7 + 0) % 4294967296 = r := ⟨_, rfl⟩
    first | rw [gr9] at hs1 | rw [gr9] at hs2 | rw [gr9] at hs3
    obtain ⟨c9, gc9⟩ : ∃ r, (r3 * a + r7 + 0) / 4294967296 = r := ⟨_, rfl⟩
    rw [gc9]
    have e9 : r9 + 4294967296 * c9 = r3 * a + r7 + 0 := by omega
    have bd9 : 0 ≤ r9 ∧ r9 ≤ 4294967295 ∧ 0 ≤ c9 ∧ c9 ≤ 4294967295 := by omega
    clear gr9 gc9
    have m10 := mulB (u := r3) (v := h) (M := 4294967295) (N := 4294967295) (by omega) (by omega) (by omega) (by omega)
    refine To.run 11 ?_
    refine To.draw [cel b3 46 [Value.int IntKind.u64 r6, Value.int IntKind.u64 r9, Value.int IntKind.u64 s8, Value.int IntKind.u64 0, Value.int IntKind.u64 0, Value.int IntKind.u64 0], cel b2 46 [Value.int IntKind.u64 r0, Value.int IntKind.u64 r3, Value.int IntKind.u64 r4, Value.int IntKind.u64 s5, Value.int IntKind.u64 0, Value.int IntKind.u64 0], cel b1 46 [Value.int IntKind.u64 a, Value.int IntKind.u64 h, Value.int IntKind.u64 0, Value.int IntKind.u64 0, Value.int IntKind.u64 0, Value.int IntKind.u64 0]] [] 16 hs1 (by kernel_rfl) (by kernel_rfl) (by kernel_rfl) fun w22 hs2 => ?_
    clear hs1
    have hb15 := Sat.holds hs2 [0, 1, 2] rfl
    refine Reg.pures [0, 1, 3, 4, 7, 8, 9, 10, 13] (fuel' := 7) (.inl hb15) rfl (by kernel_rfl) ?_
    refine Reg.load 2 1 (t := 27) (off := 1) (v := Value.int IntKind.u64 r3) (.inl hb15) rfl (by kernel_rfl) (by kernel_rfl) (by kernel_rfl) ?_
    refine Reg.load 5 2 (t := 27) (off := 1) (v := Value.int IntKind.u64 h) (.inl hb15) rfl (by kernel_rfl) (by kernel_rfl) (by kernel_rfl) ?_
    refine Reg.pures [6] (fuel' := 4) (.inl hb15) rfl (by kernel_rfl) ?_
    refine Reg.known 84 (v := .int .u64 (IntKind.u64.wrap (r3 * h))) (.int .u64 (r3 * h)) (by kernel_rfl) (by rw [wrap_u64 (by omega) (by omega)]) ?_
    refine Reg.step 11 (by kernel_rfl) (One.load 0 (t := 27) (off := 2) (v := Value.int IntKind.u64 s8) hs2 rfl (by kernel_rfl) (by kernel_rfl) ?_)
    have hb16 := Sat.holds hs2 [0, 1, 2] (B := [cel b3 46 [Value.int IntKind.u64 r6, Value.int IntKind.u64 r9, Value.int IntKind.u64 s8, Value.int IntKind.u64 0, Value.int IntKind.u64 0, Value.int IntKind.u64 0], cel b2 46 [Value.int IntKind.u64 r0, Value.int IntKind.u64 r3, Value.int IntKind.u64 r4, Value.int IntKind.u64 s5, Value.int IntKind.u64 0, Value.int IntKind.u64 0], cel b1 46 [Value.int IntKind.u64 a, Value.int IntKind.u64 h, Value.int IntKind.u64 0, Value.int IntKind.u64 0, Value.int IntKind.u64 0, Value.int IntKind.u64 0]]) rfl
    refine ⟨.inl hb16, ?_⟩
    refine Reg.pures [12] (fuel' := 2) (.inl hb16) rfl (by kernel_rfl) ?_
    refine Reg.known 90 (v := .int .u64 (IntKind.u64.wrap (r3 * h + s8))) (.int .u64 (r3 * h + s8)) (by kernel_rfl) (by rw [wrap_u64 (by omega) (by omega)]) ?_
    refine Reg.pures [14] (fuel' := 1) (.inl hb16) rfl (by kernel_rfl) ?_
    refine Reg.known 92 (v := .int .u64 (IntKind.u64.wrap (r3 * h + s8 + c9))) (.int .u64 (r3 * h + s8 + c9)) (by kernel_rfl) (by rw [wrap_u64 (by omega) (by omega)]) ?_
    refine Reg.pures [15] (fuel' := 0) (.inl hb16) rfl (by kernel_rfl) ?_
    refine Reg.done (by kernel_rfl) ?_
    refine To.run 7 ?_
    refine To.known 97 _ (by kernel_rfl) (Q_rem (r3 * h + s8 + c9) (4294967296) (by first | decide | omega)) ?_
    refine To.run 1 ?_
    refine To.one (One.store 0 (t := 27) (off := 2) (v := Value.int IntKind.u64 ((r3 * h + s8 + c9) % 4294967296)) (vs' := [Value.int IntKind.u64 r6, Value.int IntKind.u64 r9, Value.int IntKind.u64 ((r3 * h + s8 + c9) % 4294967296), Value.int IntKind.u64 0, Value.int IntKind.u64 0, Value.int IntKind.u64 0]) hs2 rfl (by kernel_rfl) (by kernel_rfl) (by kernel_rfl) fun w23 hs1 => ?_)
    simp only [List.set_cons_zero, List.set_cons_succ] at hs1
    clear hs2
    refine To.run 4 ?_
    refine To.known 100 _ (by kernel_rfl) (Q_shr (r3 * h + s8 + c9) (32) (4294967296) rfl (by first | decide | omega)) ?_
    refine To.run 8 ?_
    refine To.run 1 ?_
    refine To.at (fn := Try.f28) (n := 32) (l := [(0, Value.int IntKind.u64 x), (1, Value.int IntKind.u64 p), (6, Value.pointer (some { block := b1, off := 0 : Addr })), (7, Value.pointer (some { block := b2, off := 0 : Addr })), (12, Value.pointer (some { block := b3, off := 0 : Addr })), (13, Value.int IntKind.i64 1), (14, Value.int IntKind.u64 ((r3 * h + s8 + c9) / 4294967296)), (15, Value.int IntKind.i64 2)]) (by kernel_rfl) fun j => ?_
    obtain ⟨r10, gr10⟩ : ∃ r, (r3 * h + s8 + c9) % 4294967296 = r := ⟨_, rfl⟩
    first | rw [gr10] at hs1 | rw [gr10] at hs2 | rw [gr10] at hs3
    obtain ⟨c10, gc10⟩ : ∃ r, (r3 * h + s8 + c9) / 4294967296 = r := ⟨_, rfl⟩
    rw [gc10]
    have e10 : r10 + 4294967296 * c10 = r3 * h + s8 + c9 := by omega
    have bd10 : 0 ≤ r10 ∧ r10 ≤ 4294967295 ∧ 0 ≤ c10 ∧ c10 ≤ 4294967295 := by omega
    clear gr10 gc10
    refine To.run 14 ?_
    refine To.one (One.load 0 (t := 27) (off := 3) (v := Value.int IntKind.u64 0) hs1 rfl (by kernel_rfl) (by kernel_rfl) ?_)
    refine To.run 2 ?_
    refine To.known 108 (v := .int .u64 (IntKind.u64.wrap (0 + c10))) (.int .u64 (0 + c10)) (by kernel_rfl) (by rw [wrap_u64 (by omega) (by omega)]) ?_
    refine To.run 1 ?_
    refine To.one (One.store 0 (t := 27) (off := 3) (v := Value.int IntKind.u64 (0 + c10)) (vs' := [Value.int IntKind.u64 r6, Value.int IntKind.u64 r9, Value.int IntKind.u64 r10, Value.int IntKind.u64 (0 + c10), Value.int IntKind.u64 0, Value.int IntKind.u64 0]) hs1 rfl (by kernel_rfl) (by kernel_rfl) (by kernel_rfl) fun w24 hs2 => ?_)
    simp only [List.set_cons_zero, List.set_cons_succ] at hs2
    clear hs1
    refine To.run 7 ?_
    refine To.run 1 ?_
    refine To.at (fn := Try.f28) (n := 25) (l := [(0, Value.int IntKind.u64 x), (1, Value.int IntKind.u64 p), (6, Value.pointer (some { block := b1, off := 0 : Addr })), (7, Value.pointer (some { block := b2, off := 0 : Addr })), (12, Value.pointer (some { block := b3, off := 0 : Addr })), (13, Value.int IntKind.i64 2)]) (by kernel_rfl) fun j => ?_
    obtain ⟨s11, gs11⟩ : ∃ r, 0 + c10 = r := ⟨_, rfl⟩
    first | rw [gs11] at hs1 | rw [gs11] at hs2 | rw [gs11] at hs3
    have bd11 : 0 ≤ s11 ∧ s11 ≤ 4294967296 ∧ s11 = 0 + c10 := by omega
    clear gs11
    refine To.run 20 ?_
    refine To.run 1 ?_
    refine To.at (fn := Try.f28) (n := 32) (l := [(0, Value.int IntKind.u64 x), (1, Value.int IntKind.u64 p), (6, Value.pointer (some { block := b1, off := 0 : Addr })), (7, Value.pointer (some { block := b2, off := 0 : Addr })), (12, Value.pointer (some { block := b3, off := 0 : Addr })), (13, Value.int IntKind.i64 2), (14, Value.int IntKind.u64 0), (15, Value.int IntKind.i64 0)]) (by kernel_rfl) fun j => ?_
    have m12 := mulB (u := r4) (v := a) (M := 4294967295) (N := 4294967295) (by omega) (by omega) (by omega) (by omega)
    refine To.run 11 ?_
    refine To.draw [cel b3 46 [Value.int IntKind.u64 r6, Value.int IntKind.u64 r9, Value.int IntKind.u64 r10, Value.int IntKind.u64 s11, Value.int IntKind.u64 0, Value.int IntKind.u64 0], cel b2 46 [Value.int IntKind.u64 r0, Value.int IntKind.u64 r3, Value.int IntKind.u64 r4, Value.int IntKind.u64 s5, Value.int IntKind.u64 0, Value.int IntKind.u64 0], cel b1 46 [Value.int IntKind.u64 a, Value.int IntKind.u64 h, Value.int IntKind.u64 0, Value.int IntKind.u64 0, Value.int IntKind.u64 0, Value.int IntKind.u64 0]] [] 16 hs2 (by kernel_rfl) (by kernel_rfl) (by kernel_rfl) fun w25 hs1 => ?_
    clear hs2
    have hb17 := Sat.holds hs1 [0, 1, 2] rfl
    refine Reg.pures [0, 1, 3, 4, 7, 8, 9, 10, 13] (fuel' := 7) (.inl hb17) rfl (by kernel_rfl) ?_
    refine Reg.load 2 1 (t := 27) (off := 2) (v := Value.int IntKind.u64 r4) (.inl hb17) rfl (by kernel_rfl) (by kernel_rfl) (by kernel_rfl) ?_
    refine Reg.load 5 2 (t := 27) (off := 0) (v := Value.int IntKind.u64 a) (.inl hb17) rfl (by kernel_rfl) (by kernel_rfl) (by kernel_rfl) ?_
    refine Reg.pures [6] (fuel' := 4) (.inl hb17) rfl (by kernel_rfl) ?_
    refine Reg.known 84 (v := .int .u64 (IntKind.u64.wrap (r4 * a))) (.int .u64 (r4 * a)) (by kernel_rfl) (by rw [wrap_u64 (by omega) (by omega)]) ?_
    refine Reg.step 11 (by kernel_rfl) (One.load 0 (t := 27) (off := 2) (v := Value.int IntKind.u64 r10) hs1 rfl (by kernel_rfl) (by kernel_rfl) ?_)
    have hb18 := Sat.holds hs1 [0, 1, 2] (B := [cel b3 46 [Value.int IntKind.u64 r6, Value.int IntKind.u64 r9, Value.int IntKind.u64 r10, Value.int IntKind.u64 s11, Value.int IntKind.u64 0, Value.int IntKind.u64 0], cel b2 46 [Value.int IntKind.u64 r0, Value.int IntKind.u64 r3, Value.int IntKind.u64 r4, Value.int IntKind.u64 s5, Value.int IntKind.u64 0, Value.int IntKind.u64 0], cel b1 46 [Value.int IntKind.u64 a, Value.int IntKind.u64 h, Value.int IntKind.u64 0, Value.int IntKind.u64 0, Value.int IntKind.u64 0, Value.int IntKind.u64 0]]) rfl
    refine ⟨.inl hb18, ?_⟩
    refine Reg.pures [12] (fuel' := 2) (.inl hb18) rfl (by kernel_rfl) ?_
    refine Reg.known 90 (v := .int .u64 (IntKind.u64.wrap (r4 * a + r10))) (.int .u64 (r4 * a + r10)) (by kernel_rfl) (by rw [wrap_u64 (by omega) (by omega)]) ?_
    refine Reg.pures [14] (fuel' := 1) (.inl hb18) rfl (by kernel_rfl) ?_
    refine Reg.known 92 (v := .int .u64 (IntKind.u64.wrap (r4 * a + r10 + 0))) (.int .u64 (r4 * a + r10 + 0)) (by kernel_rfl) (by rw [wrap_u64 (by omega) (by omega)]) ?_
    refine Reg.pures [15] (fuel' := 0) (.inl hb18) rfl (by kernel_rfl) ?_
    refine Reg.done (by kernel_rfl) ?_
    refine To.run 7 ?_
    refine To.known 97 _ (by kernel_rfl) (Q_rem (r4 * a + r10 + 0) (4294967296) (by first | decide | omega)) ?_
    refine To.run 1 ?_
    refine To.one (One.store 0 (t := 27) (off := 2) (v := Value.int IntKind.u64 ((r4 * a + r10 + 0) % 4294967296)) (vs' := [Value.int IntKind.u64 r6, Value.int IntKind.u64 r9, Value.int IntKind.u64 ((r4 * a + r10 + 0) % 4294967296), Value.int IntKind.u64 s11, Value.int IntKind.u64 0, Value.int IntKind.u64 0]) hs1 rfl (by kernel_rfl) (by kernel_rfl) (by kernel_rfl) fun w26 hs2 => ?_)
    simp only [List.set_cons_zero, List.set_cons_succ] at hs2
    clear hs1
    refine To.run 4 ?_
    refine To.known 100 _ (by kernel_rfl) (Q_shr (r4 * a + r10 + 0) (32) (4294967296) rfl (by first | decide | omega)) ?_
    refine To.run 8 ?_
    refine To.run 1 ?_
    refine To.at (fn := Try.f28) (n := 32) (l := [(0, Value.int IntKind.u64 x), (1, Value.int IntKind.u64 p), (6, Value.pointer (some { block := b1, off := 0 : Addr })), (7, Value.pointer (some { block := b2, off := 0 : Addr })), (12, Value.pointer (some { block := b3, off := 0 : Addr })), (13, Value.int IntKind.i64 2), (14, Value.int IntKind.u64 ((r4 * a + r10 + 0) / 4294967296)), (15, Value.int IntKind.i64 1)]) (by kernel_rfl) fun j => ?_
    obtain ⟨r12, gr12⟩ : ∃ r, (r4 * a + r10 + 0) % 4294967296 = r := ⟨_, rfl⟩
    first | rw [gr12] at hs1 | rw [gr12] at hs2 | rw [gr12] at hs3
    obtain ⟨c12, gc12⟩ : ∃ r, (r4 * a + r10 + 0) / 4294967296 = r := ⟨_, rfl⟩
    rw [gc12]
    have e12 : r12 + 4294967296 * c12 = r4 * a + r10 + 0 := by omega
    have bd12 : 0 ≤ r12 ∧ r12 ≤ 4294967295 ∧ 0 ≤ c12 ∧ c12 ≤ 4294967295 := by omega
    clear gr12 gc12
    have m13 := mulB (u := r4) (v := h) (M := 4294967295) (N := 4294967295) (by omega) (by omega) (by omega) (by omega)
    refine To.run 11 ?_
    refine To.draw [cel b3 46 [Value.int IntKind.u64 r6, Value.int IntKind.u64 r9, Value.int IntKind.u64 r12, Value.int IntKind.u64 s11, Value.int IntKind.u64 0, Value.int IntKind.u64 0], cel b2 46 [Value.int IntKind.u64 r0, Value.int IntKind.u64 r3, Value.int IntKind.u64 r4, Value.int IntKind.u64 s5, Value.int IntKind.u64 0, Value.int IntKind.u64 0], cel b1 46 [Value.int IntKind.u64 a, Value.int IntKind.u64 h, Value.int IntKind.u64 0, Value.int IntKind.u64 0, Value.int IntKind.u64 0, Value.int IntKind.u64 0]] [] 16 hs2 (by kernel_rfl) (by kernel_rfl) (by kernel_rfl) fun w27 hs1 => ?_
    clear hs2
    have hb19 := Sat.holds hs1 [0, 1, 2] rfl
    refine Reg.pures [0, 1, 3, 4, 7, 8, 9, 10, 13] (fuel' := 7) (.inl hb19) rfl (by kernel_rfl) ?_
    refine Reg.load 2 1 (t := 27) (off := 2) (v := Value.int IntKind.u64 r4) (.inl hb19) rfl (by kernel_rfl) (by kernel_rfl) (by kernel_rfl) ?_
    refine Reg.load 5 2 (t := 27) (off := 1) (v := Value.int IntKind.u64 h) (.inl hb19) rfl (by kernel_rfl) (by kernel_rfl) (by kernel_rfl) ?_
    refine Reg.pures [6] (fuel' := 4) (.inl hb19) rfl (by kernel_rfl) ?_
    refine Reg.known 84 (v := .int .u64 (IntKind.u64.wrap (r4 * h))) (.int .u64 (r4 * h)) (by kernel_rfl) (by rw [wrap_u64 (by omega) (by omega)]) ?_
    refine Reg.step 11 (by kernel_rfl) (One.load 0 (t := 27) (off := 3) (v := Value.int IntKind.u64 s11) hs1 rfl (by kernel_rfl) (by kernel_rfl) ?_)
    have hb20 := Sat.holds hs1 [0, 1, 2] (B := [cel b3 46 [Value.int IntKind.u64 r6, Value.int IntKind.u64 r9, Value.int IntKind.u64 r12, Value.int IntKind.u64 s11, Value.int IntKind.u64 0, Value.int IntKind.u64 0], cel b2 46 [Value.int IntKind.u64 r0, Value.int IntKind.u64 r3, Value.int IntKind.u64 r4, Value.int IntKind.u64 s5, Value.int IntKind.u64 0, Value.int IntKind.u64 0], cel b1 46 [Value.int IntKind.u64 a, Value.int IntKind.u64 h, Value.int IntKind.u64 0, Value.int IntKind.u64 0, Value.int IntKind.u64 0, Value.int IntKind.u64 0]]) rfl
    refine ⟨.inl hb20, ?_⟩
    refine Reg.pures [12] (fuel' := 2) (.inl hb20) rfl (by kernel_rfl) ?_
    refine Reg.known 90 (v := .int .u64 (IntKind.u64.wrap (r4 * h + s11))) (.int .u64 (r4 * h + s11)) (by kernel_rfl) (by rw [wrap_u64 (by omega) (by omega)]) ?_
    refine Reg.pures [14] (fuel' := 1) (.inl hb20) rfl (by kernel_rfl) ?_
    refine Reg.known 92 (v := .int .u64 (IntKind.u64.wrap (r4 * h + s11 + c12))) (.int .u64 (r4 * h + s11 + c12)) (by kernel_rfl) (by rw [wrap_u64 (by omega) (by omega)]) ?_
    refine Reg.pures [15] (fuel' := 0) (.inl hb20) rfl (by kernel_rfl) ?_
    refine Reg.done (by kernel_rfl) ?_
    refine To.run 7 ?_
    refine To.known 97 _ (by kernel_rfl) (Q_rem (r4 * h + s11 + c12) (4294967296) (by first | decide | omega)) ?_
    refine To.run 1 ?_
    refine To.one (One.store 0 (t := 27) (off := 3) (v := Value.int IntKind.u64 ((r4 * h + s11 + c12) % 4294967296)) (vs' := [Value.int IntKind.u64 r6, Value.int IntKind.u64 r9, Value.int IntKind.u64 r12, Value.int IntKind.u64 ((r4 * h + s11 + c12) % 4294967296), Value.int IntKind.u64 0, Value.int IntKind.u64 0]) hs1 rfl (by kernel_rfl) (by kernel_rfl) (by kernel_rfl) fun w28 hs2 => ?_)
    simp only [List.set_cons_zero, List.set_cons_succ] at hs2
    clear hs1
    refine To.run 4 ?_
    refine To.known 100 _ (by kernel_rfl) (Q_shr (r4 * h + s11 + c12) (32) (4294967296) rfl (by first | decide | omega)) ?_
    refine To.run 8 ?_
    refine To.run 1 ?_
    refine To.at (fn := Try.f28) (n := 32) (l := [(0, Value.int IntKind.u64 x), (1, Value.int IntKind.u64 p), (6, Value.pointer (some { block := b1, off := 0 : Addr })), (7, Value.pointer (some { block := b2, off := 0 : Addr })), (12, Value.pointer (some { block := b3, off := 0 : Addr })), (13, Value.int IntKind.i64 2), (14, Value.int IntKind.u64 ((r4 * h + s11 + c12) / 4294967296)), (15, Value.int IntKind.i64 2)]) (by kernel_rfl) fun j => ?_
    obtain ⟨r13, gr13⟩ : ∃ r, (r4 * h + s11 + c12) % 4294967296 = r := ⟨_, rfl⟩
    first | rw [gr13] at hs1 | rw [gr13] at hs2 | rw [gr13] at hs3
    obtain ⟨c13, gc13⟩ : ∃ r, (r4 * h + s11 + c12) / 4294967296 = r := ⟨_, rfl⟩
    rw [gc13]
    have e13 : r13 + 4294967296 * c13 = r4 * h + s11 + c12 := by omega
    have bd13 : 0 ≤ r13 ∧ r13 ≤ 4294967295 ∧ 0 ≤ c13 ∧ c13 ≤ 4294967295 := by omega
    clear gr13 gc13
    refine To.run 14 ?_
    refine To.one (One.load 0 (t := 27) (off := 4) (v := Value.int IntKind.u64 0) hs2 rfl (by kernel_rfl) (by kernel_rfl) ?_)
    refine To.run 2 ?_
    refine To.known 108 (v := .int .u64 (IntKind.u64.wrap (0 + c13))) (.int .u64 (0 + c13)) (by kernel_rfl) (by rw [wrap_u64 (by omega) (by omega)]) ?_
    refine To.run 1 ?_
    refine To.one (One.store 0 (t := 27) (off := 4) (v := Value.int IntKind.u64 (0 + c13)) (vs' := [Value.int IntKind.u64 r6, Value.int IntKind.u64 r9, Value.int IntKind.u64 r12, Value.int IntKind.u64 r13, Value.int IntKind.u64 (0 + c13), Value.int IntKind.u64 0]) hs2 rfl (by kernel_rfl) (by kernel_rfl) (by kernel_rfl) fun w29 hs1 => ?_)
    simp only [List.set_cons_zero, List.set_cons_succ] at hs1
    clear hs2
    refine To.run 7 ?_
    refine To.run 1 ?_
    refine To.at (fn := Try.f28) (n := 25) (l := [(0, Value.int IntKind.u64 x), (1, Value.int IntKind.u64 p), (6, Value.pointer (some { block := b1, off := 0 : Addr })), (7, Value.pointer (some { block := b2, off := 0 : Addr })), (12, Value.pointer (some { block := b3, off := 0 : Addr })), (13, Value.int IntKind.i64 3)]) (by kernel_rfl) fun j => ?_
    obtain ⟨s14, gs14⟩ : ∃ r, 0 + c13 = r := ⟨_, rfl⟩
    first | rw [gs14] at hs1 | rw [gs14] at hs2 | rw [gs14] at hs3
    have bd14 : 0 ≤ s14 ∧ s14 ≤ 4294967296 ∧ s14 = 0 + c13 := by omega
    clear gs14
    refine To.run 20 ?_
    refine To.run 1 ?_
    refine To.at (fn := Try.f28) (n := 32) (l := [(0, Value.int IntKind.u64 x), (1, Value.int IntKind.u64 p), (6, Value.pointer (some { block := b1, off := 0 : Addr })), (7, Value.pointer (some { block := b2, off := 0 : Addr })), (12, Value.pointer (some { block := b3, off := 0 : Addr })), (13, Value.int IntKind.i64 3), (14, Value.int IntKind.u64 0), (15, Value.int IntKind.i64 0)]) (by kernel_rfl) fun j => ?_
    have m15 := mulB (u := s5) (v := a) (M := 4294967295) (N := 4294967295) (by omega) (by omega) (by omega) (by omega)
    refine To.run 11 ?_
    refine To.draw [cel b3 46 [Value.int IntKind.u64 r6, Value.int IntKind.u64 r9, Value.int IntKind.u64 r12, Value.int IntKind.u64 r13, Value.int IntKind.u64 s14, Value.int IntKind.u64 0], cel b2 46 [Value.int IntKind.u64 r0, Value.int IntKind.u64 r3, Value.int IntKind.u64 r4, Value.int IntKind.u64 s5, Value.int IntKind.u64 0, Value.int IntKind.u64 0], cel b1 46 [Value.int IntKind.u64 a, Value.int IntKind.u64 h, Value.int IntKind.u64 0, Value.int IntKind.u64 0, Value.int IntKind.u64 0, Value.int IntKind.u64 0]] [] 16 hs1 (by kernel_rfl) (by kernel_rfl) (by kernel_rfl) fun w30 hs2 => ?_
    clear hs1
    have hb21 := Sat.holds hs2 [0, 1, 2] rfl
    refine Reg.pures [0, 1, 3, 4, 7, 8, 9, 10, 13] (fuel' := 7) (.inl hb21) rfl (by kernel_rfl) ?_
    refine Reg.load 2 1 (t := 27) (off := 3) (v := Value.int IntKind.u64 s5) (.inl hb21) rfl (by kernel_rfl) (by kernel_rfl) (by kernel_rfl) ?_
    refine Reg.load 5 2 (t := 27) (off := 0) (v := Value.int IntKind.u64 a) (.inl hb21) rfl (by kernel_rfl) (by kernel_rfl) (by kernel_rfl) ?_
    refine Reg.pures [6] (fuel' := 4) (.inl hb21) rfl (by kernel_rfl) ?_
    refine Reg.known 84 (v := .int .u64 (IntKind.u64.wrap (s5 * a))) (.int .u64 (s5 * a)) (by kernel_rfl) (by rw [wrap_u64 (by omega) (by omega)]) ?_
    refine Reg.step 11 (by kernel_rfl) (One.load 0 (t := 27) (off := 3) (v := Value.int IntKind.u64 r13) hs2 rfl (by kernel_rfl) (by kernel_rfl) ?_)
    have hb22 := Sat.holds hs2 [0, 1, 2] (B := [cel b3 46 [Value.int IntKind.u64 r6, Value.int IntKind.u64 r9, Value.int IntKind.u64 r12, Value.int IntKind.u64 r13, Value.int IntKind.u64 s14, Value.int IntKind.u64 0], cel b2 46 [Value.int IntKind.u64 r0, Value.int IntKind.u64 r3, Value.int IntKind.u64 r4, Value.int IntKind.u64 s5, Value.int IntKind.u64 0, Value.int IntKind.u64 0], cel b1 46 [Value.int IntKind.u64 a, Value.int IntKind.u64 h, Value.int IntKind.u64 0, Value.int IntKind.u64 0, Value.int IntKind.u64 0, Value.int IntKind.u64 0]]) rfl
    refine ⟨.inl hb22, ?_⟩
    refine Reg.pures [12] (fuel' := 2) (.inl hb22) rfl (by kernel_rfl) ?_
    refine Reg.known 90 (v := .int .u64 (IntKind.u64.wrap (s5 * a + r13))) (.int .u64 (s5 * a + r13)) (by kernel_rfl) (by rw [wrap_u64 (by omega) (by omega)]) ?_
    refine Reg.pures [14] (fuel' := 1) (.inl hb22) rfl (by kernel_rfl) ?_
    refine Reg.known 92 (v := .int .u64 (IntKind.u64.wrap (s5 * a + r13 + 0))) (.int .u64 (s5 * a + r13 + 0)) (by kernel_rfl) (by rw [wrap_u64 (by omega) (by omega)]) ?_
    refine Reg.pures [15] (fuel' := 0) (.inl hb22) rfl (by kernel_rfl) ?_
    refine Reg.done (by kernel_rfl) ?_
    refine To.run 7 ?_
    refine To.known 97 _ (by kernel_rfl) (Q_rem (s5 * a + r13 + 0) (4294967296) (by first | decide | omega)) ?_
    refine To.run 1 ?_
    refine To.one (One.store 0 (t := 27) (off := 3) (v := Value.int IntKind.u64 ((s5 * a + r13 + 0) % 4294967296)) (vs' := [Value.int IntKind.u64 r6, Value.int IntKind.u64 r9, Value.int IntKind.u64 r12, Value.int IntKind.u64 ((s5 * a + r13 + 0) % 4294967296), Value.int IntKind.u64 s14, Value.int IntKind.u64 0]) hs2 rfl (by kernel_rfl) (by kernel_rfl) (by kernel_rfl) fun w31 hs1 => ?_)
    simp only [List.set_cons_zero, List.set_cons_succ] at hs1
    clear hs2
    refine To.run 4 ?_
    refine To.known 100 _ (by kernel_rfl) (Q_shr (s5 * a + r13 + 0) (32) (4294967296) rfl (by first | decide | omega)) ?_
    refine To.run 8 ?_
    refine To.run 1 ?_
    refine To.at (fn := Try.f28) (n := 32) (l := [(0, Value.int IntKind.u64 x), (1, Value.int IntKind.u64 p), (6, Value.pointer (some { block := b1, off := 0 : Addr })), (7, Value.pointer (some { block := b2, off := 0 : Addr })), (12, Value.pointer (some { block := b3, off := 0 : Addr })), (13, Value.int IntKind.i64 3), (14, Value.int IntKind.u64 ((s5 * a + r13 + 0) / 4294967296)), (15, Value.int IntKind.i64 1)]) (by kernel_rfl) fun j => ?_
    obtain ⟨r15, gr15⟩ : ∃ r, (s5 * a + r13 + 0) % 4294967296 = r := ⟨_, rfl⟩
    first | rw [gr15] at hs1 | rw [gr15] at hs2 | rw [gr15] at hs3
    obtain ⟨c15, gc15⟩ : ∃ r, (s5 * a + r13 + 0) / 4294967296 = r := ⟨_, rfl⟩
    rw [gc15]
    have e15 : r15 + 4294967296 * c15 = s5 * a + r13 + 0 := by omega
    have bd15 : 0 ≤ r15 ∧ r15 ≤ 4294967295 ∧ 0 ≤ c15 ∧ c15 ≤ 4294967295 := by omega
    clear gr15 gc15
    have m16 := mulB (u := s5) (v := h) (M := 4294967295) (N := 4294967295) (by omega) (by omega) (by omega) (by omega)
    refine To.run 11 ?_
    refine To.draw [cel b3 46 [Value.int IntKind.u64 r6, Value.int IntKind.u64 r9, Value.int IntKind.u64 r12, Value.int IntKind.u64 r15, Value.int IntKind.u64 s14, Value.int IntKind.u64 0], cel b2 46 [Value.int IntKind.u64 r0, Value.int IntKind.u64 r3, Value.int IntKind.u64 r4, Value.int IntKind.u64 s5, Value.int IntKind.u64 0, Value.int IntKind.u64 0], cel b1 46 [Value.int IntKind.u64 a, Value.int IntKind.u64 h, Value.int IntKind.u64 0, Value.int IntKind.u64 0, Value.int IntKind.u64 0, Value.int IntKind.u64 0]] [] 16 hs1 (by kernel_rfl) (by kernel_rfl) (by kernel_rfl) fun w32 hs2 => ?_
    clear hs1
    have hb23 := Sat.holds hs2 [0, 1, 2] rfl
    refine Reg.pures [0, 1, 3, 4, 7, 8, 9, 10, 13] (fuel' := 7) (.inl hb23) rfl (by kernel_rfl) ?_
    refine Reg.load 2 1 (t := 27) (off := 3) (v := Value.int IntKind.u64 s5) (.inl hb23) rfl (by kernel_rfl) (by kernel_rfl) (by kernel_rfl) ?_
    refine Reg.load 5 2 (t := 27) (off := 1) (v := Value.int IntKind.u64 h) (.inl hb23) rfl (by kernel_rfl) (by kernel_rfl) (by kernel_rfl) ?_
    refine Reg.pures [6] (fuel' := 4) (.inl hb23) rfl (by kernel_rfl) ?_
    refine Reg.known 84 (v := .int .u64 (IntKind.u64.wrap (s5 * h))) (.int .u64 (s5 * h)) (by kernel_rfl) (by rw [wrap_u64 (by omega) (by omega)]) ?_
    refine Reg.step 11 (by kernel_rfl) (One.load 0 (t := 27) (off := 4) (v := Value.int IntKind.u64 s14) hs2 rfl (by kernel_rfl) (by kernel_rfl) ?_)
    have hb24 := Sat.holds hs2 [0, 1, 2] (B := [cel b3 46 [Value.int IntKind.u64 r6, Value.int IntKind.u64 r9, Value.int IntKind.u64 r12, Value.int IntKind.u64 r15, Value.int IntKind.u64 s14, Value.int IntKind.u64 0], cel b2 46 [Value.int IntKind.u64 r0, Value.int IntKind.u64 r3, Value.int IntKind.u64 r4, Value.int IntKind.u64 s5, Value.int IntKind.u64 0, Value.int IntKind.u64 0], cel b1 46 [Value.int IntKind.u64 a, Value.int IntKind.u64 h, Value.int IntKind.u64 0, Value.int IntKind.u64 0, Value.int IntKind.u64 0, Value.int IntKind.u64 0]]) rfl
    refine ⟨.inl hb24, ?_⟩
    refine Reg.pures [12] (fuel' := 2) (.inl hb24) rfl (by kernel_rfl) ?_
    refine Reg.known 90 (v := .int .u64 (IntKind.u64.wrap (s5 * h + s14))) (.int .u64 (s5 * h + s14)) (by kernel_rfl) (by rw [wrap_u64 (by omega) (by omega)]) ?_
    refine Reg.pures [14] (fuel' := 1) (.inl hb24) rfl (by kernel_rfl) ?_
    refine Reg.known 92 (v := .int .u64 (IntKind.u64.wrap (s5 * h + s14 + c15))) (.int .u64 (s5 * h + s14 + c15)) (by kernel_rfl) (by rw [wrap_u64 (by omega) (by omega)]) ?_
    refine Reg.pures [15] (fuel' := 0) (.inl hb24) rfl (by kernel_rfl) ?_
    refine Reg.done (by kernel_rfl) ?_
    refine To.run 7 ?_
    refine To.known 97 _ (by kernel_rfl) (Q_rem (s5 * h + s14 + c15) (4294967296) (by first | decide | omega)) ?_
    refine To.run 1 ?_
    refine To.one (One.store 0 (t := 27) (off := 4) (v := Value.int IntKind.u64 ((s5 * h + s14 + c15) % 4294967296)) (vs' := [Value.int IntKind.u64 r6, Value.int IntKind.u64 r9, Value.int IntKind.u64 r12, Value.int IntKind.u64 r15, Value.int IntKind.u64 ((s5 * h + s14 + c15) % 4294967296), Value.int IntKind.u64 0]) hs2 rfl (by kernel_rfl) (by kernel_rfl) (by kernel_rfl) fun w33 hs1 => ?_)
    simp only [List.set_cons_zero, List.set_cons_succ] at hs1
    clear hs2
    refine To.run 4 ?_
    refine To.known 100 _ (by kernel_rfl) (Q_shr (s5 * h + s14 + c15) (32) (4294967296) rfl (by first | decide | omega)) ?_
    refine To.run 8 ?_
    refine To.run 1 ?_
    refine To.at (fn := Try.f28) (n := 32) (l := [(0, Value.int IntKind.u64 x), (1, Value.int IntKind.u64 p), (6, Value.pointer (some { block := b1, off := 0 : Addr })), (7, Value.pointer (some { block := b2, off := 0 : Addr })), (12, Value.pointer (some { block := b3, off := 0 : Addr })), (13, Value.int IntKind.i64 3), (14, Value.int IntKind.u64 ((s5 * h + s14 + c15) / 4294967296)), (15, Value.int IntKind.i64 2)]) (by kernel_rfl) fun j => ?_
    obtain ⟨r16, gr16⟩ : ∃ r, (s5 * h + s14 + c15) % 4294967296 = r := ⟨_, rfl⟩
    first | rw [gr16] at hs1 | rw [gr16] at hs2 | rw [gr16] at hs3
    obtain ⟨c16, gc16⟩ : ∃ r, (s5 * h + s14 + c15) / 4294967296 = r := ⟨_, rfl⟩
    rw [gc16]
    have e16 : r16 + 4294967296 * c16 = s5 * h + s14 + c15 := by omega
    have bd16 : 0 ≤ r16 ∧ r16 ≤ 4294967295 ∧ 0 ≤ c16 ∧ c16 ≤ 4294967295 := by omega
    clear gr16 gc16
    refine To.run 14 ?_
    refine To.one (One.load 0 (t := 27) (off := 5) (v := Value.int IntKind.u64 0) hs1 rfl (by kernel_rfl) (by kernel_rfl) ?_)
    refine To.run 2 ?_
    refine To.known 108 (v := .int .u64 (IntKind.u64.wrap (0 + c16))) (.int .u64 (0 + c16)) (by kernel_rfl) (by rw [wrap_u64 (by omega) (by omega)]) ?_
    refine To.run 1 ?_
    refine To.one (One.store 0 (t := 27) (off := 5) (v := Value.int IntKind.u64 (0 + c16)) (vs' := [Value.int IntKind.u64 r6, Value.int IntKind.u64 r9, Value.int IntKind.u64 r12, Value.int IntKind.u64 r15, Value.int IntKind.u64 r16, Value.int IntKind.u64 (0 + c16)]) hs1 rfl (by kernel_rfl) (by kernel_rfl) (by kernel_rfl) fun w34 hs2 => ?_)
    simp only [List.set_cons_zero, List.set_cons_succ] at hs2
    clear hs1
    refine To.run 7 ?_
    refine To.run 1 ?_
    refine To.at (fn := Try.f28) (n := 25) (l := [(0, Value.int IntKind.u64 x), (1, Value.int IntKind.u64 p), (6, Value.pointer (some { block := b1, off := 0 : Addr })), (7, Value.pointer (some { block := b2, off := 0 : Addr })), (12, Value.pointer (some { block := b3, off := 0 : Addr })), (13, Value.int IntKind.i64 4)]) (by kernel_rfl) fun j => ?_
    obtain ⟨s17, gs17⟩ : ∃ r, 0 + c16 = r := ⟨_, rfl⟩
    first | rw [gs17] at hs1 | rw [gs17] at hs2 | rw [gs17] at hs3
    have bd17 : 0 ≤ s17 ∧ s17 ≤ 4294967296 ∧ s17 = 0 + c16 := by omega
    clear gs17
    have key := cube_key a h x r0 c0 r1 c1 s2 r3 c3 r4 c4 s5 r6 c6 r7 c7 s8 r9 c9 r10 c10 s11 r12 c12 r13 c13 s14 r15 c15 r16 c16 s17 hx e0 e1 bd2.2.2 e3 e4 bd5.2.2 e6 e7 bd8.2.2 e9 e10 bd11.2.2 e12 e13 bd14.2.2 e15 e16 bd17.2.2
    have hx37 : x ≤ 137438953471 := by omega
    have x2 := mulB hx0 hx37 hx0 hx37
    have x3 := mulB x2.1 x2.2 hx0 hx37
    have hsub : Sat E w34 L := hs2.sub (((List.sublist_cons_self _ _).cons _).cons _)
    clear e0 e1 e3 e4 e6 e7 e9 e10 e12 e13 e15 e16 m0 m1 m3 m4 m6 m7 m9 m10 m12 m13 m15 m16 bd2 bd5 bd8 bd11 bd14 hsub hgt mhh mhhh
    by_cases hT : p < r15 + r16 * 4294967296
    · refine To.run 11 ?_
      refine To.one (One.load 0 (t := 27) (off := 3) (v := Value.int IntKind.u64 r15) hs2 rfl (by kernel_rfl) (by kernel_rfl) ?_)
      refine To.run 1 ?_
      refine To.one (One.load 0 (t := 27) (off := 4) (v := Value.int IntKind.u64 r16) hs2 rfl (by kernel_rfl) (by kernel_rfl) ?_)
      refine To.run 1 ?_
      refine To.known 114 _ (by kernel_rfl) (Q_shl (r16) (32) (4294967296) rfl (by first | decide | omega)) ?_
      refine To.run 1 ?_
      refine To.known 115 (v := .int .u64 (IntKind.u64.wrap (r15 + r16 * 4294967296))) (.int .u64 (r15 + r16 * 4294967296)) (by kernel_rfl) (by rw [wrap_u64 (by omega) (by omega)]) ?_
      refine To.run 3 ?_
      refine To.isTrue 118 (t := decide (r15 + r16 * 4294967296 ≥ p)) (by kernel_rfl) (by (simp; omega)) ?_
      refine To.run 1 ?_
      refine To.one (One.load 0 (t := 27) (off := 3) (v := Value.int IntKind.u64 r15) hs2 rfl (by kernel_rfl) (by kernel_rfl) ?_)
      refine To.run 1 ?_
      refine To.one (One.load 0 (t := 27) (off := 4) (v := Value.int IntKind.u64 r16) hs2 rfl (by kernel_rfl) (by kernel_rfl) ?_)
      refine To.run 1 ?_
      refine To.known 123 _ (by kernel_rfl) (Q_shl (r16) (32) (4294967296) rfl (by first | decide | omega)) ?_
      refine To.run 1 ?_
      refine To.known 124 (v := .int .u64 (IntKind.u64.wrap (r15 + r16 * 4294967296))) (.int .u64 (r15 + r16 * 4294967296)) (by kernel_rfl) (by rw [wrap_u64 (by omega) (by omega)]) ?_
      refine To.run 3 ?_
      refine To.isTrue 127 (t := decide (r15 + r16 * 4294967296 > p)) (by kernel_rfl) (by (simp; omega)) ?_
      refine To.run 13 ?_
      refine To.retv Try.func28 (by kernel_rfl) (v := Value.bool true) (by kernel_rfl) ?_
      exact ⟨_, _, rfl, ⟨by rw [decide_eq_true (show p * 79228162514264337593543950336 < x * x * x by omega)], rfl⟩, hs2.sub (((List.sublist_cons_self _ _).cons _).cons _)⟩
    · by_cases hT2 : r15 + r16 * 4294967296 < p
      · refine To.run 11 ?_
        refine To.one (One.load 0 (t := 27) (off := 3) (v := Value.int IntKind.u64 r15) hs2 rfl (by kernel_rfl) (by kernel_rfl) ?_)
        refine To.run 1 ?_
        refine To.one (One.load 0 (t := 27) (off := 4) (v := Value.int IntKind.u64 r16) hs2 rfl (by kernel_rfl) (by kernel_rfl) ?_)
        refine To.run 1 ?_
        refine To.known 114 _ (by kernel_rfl) (Q_shl (r16) (32) (4294967296) rfl (by first | decide | omega)) ?_
        refine To.run 1 ?_
        refine To.known 115 (v := .int .u64 (IntKind.u64.wrap (r15 + r16 * 4294967296))) (.int .u64 (r15 + r16 * 4294967296)) (by kernel_rfl) (by rw [wrap_u64 (by omega) (by omega)]) ?_
        refine To.run 3 ?_
        refine To.isFalse 118 (t := decide (r15 + r16 * 4294967296 ≥ p)) (by kernel_rfl) (by (simp; omega)) ?_
        refine To.run 22 ?_
        refine To.retv Try.func28 (by kernel_rfl) (v := Value.bool false) (by kernel_rfl) ?_
        exact ⟨_, _, rfl, ⟨by rw [decide_eq_false (show ¬ p * 79228162514264337593543950336 < x * x * x by omega)], rfl⟩, hs2.sub (((List.sublist_cons_self _ _).cons _).cons _)⟩
      · have hTe : r15 + r16 * 4294967296 = p := by omega
        by_cases hlow : 0 < r6 + r9 + r12
        · refine To.run 11 ?_
          refine To.one (One.load 0 (t := 27) (off := 3) (v := Value.int IntKind.u64 r15) hs2 rfl (by kernel_rfl) (by kernel_rfl) ?_)
          refine To.run 1 ?_
          refine To.one (One.load 0 (t := 27) (off := 4) (v := Value.int IntKind.u64 r16) hs2 rfl (by kernel_rfl) (by kernel_rfl) ?_)
          refine To.run 1 ?_
          refine To.known 114 _ (by kernel_rfl) (Q_shl (r16) (32) (4294967296) rfl (by first | decide | omega)) ?_
          refine To.run 1 ?_
          refine To.known 115 (v := .int .u64 (IntKind.u64.wrap (r15 + r16 * 4294967296))) (.int .u64 (r15 + r16 * 4294967296)) (by kernel_rfl) (by rw [wrap_u64 (by omega) (by omega)]) ?_
          refine To.run 3 ?_
          refine To.isTrue 118 (t := decide (r15 + r16 * 4294967296 ≥ p)) (by kernel_rfl) (by (simp; omega)) ?_
          refine To.run 1 ?_
          refine To.one (One.load 0 (t := 27) (off := 3) (v := Value.int IntKind.u64 r15) hs2 rfl (by kernel_rfl) (by kernel_rfl) ?_)
          refine To.run 1 ?_
          refine To.one (One.load 0 (t := 27) (off := 4) (v := Value.int IntKind.u64 r16) hs2 rfl (by kernel_rfl) (by kernel_rfl) ?_)
          refine To.run 1 ?_
          refine To.known 123 _ (by kernel_rfl) (Q_shl (r16) (32) (4294967296) rfl (by first | decide | omega)) ?_
          refine To.run 1 ?_
          refine To.known 124 (v := .int .u64 (IntKind.u64.wrap (r15 + r16 * 4294967296))) (.int .u64 (r15 + r16 * 4294967296)) (by kernel_rfl) (by rw [wrap_u64 (by omega) (by omega)]) ?_
          refine To.run 3 ?_
          refine To.isFalse 127 (t := decide (r15 + r16 * 4294967296 > p)) (by kernel_rfl) (by (simp; omega)) ?_
          refine To.run 1 ?_
          refine To.one (One.load 0 (t := 27) (off := 0) (v := Value.int IntKind.u64 r6) hs2 rfl (by kernel_rfl) (by kernel_rfl) ?_)
          refine To.run 1 ?_
          refine To.one (One.load 0 (t := 27) (off := 1) (v := Value.int IntKind.u64 r9) hs2 rfl (by kernel_rfl) (by kernel_rfl) ?_)
          refine To.run 1 ?_
          refine To.known 132 (v := .int .u64 (IntKind.u64.wrap (r6 + r9))) (.int .u64 (r6 + r9)) (by kernel_rfl) (by rw [wrap_u64 (by omega) (by omega)]) ?_
          refine To.run 1 ?_
          refine To.one (One.load 0 (t := 27) (off := 2) (v := Value.int IntKind.u64 r12) hs2 rfl (by kernel_rfl) (by kernel_rfl) ?_)
          refine To.run 1 ?_
          refine To.known 135 (v := .int .u64 (IntKind.u64.wrap (r6 + r9 + r12))) (.int .u64 (r6 + r9 + r12)) (by kernel_rfl) (by rw [wrap_u64 (by omega) (by omega)]) ?_
          refine To.run 5 ?_
          refine To.retv Try.func28 (by kernel_rfl) (v := Value.bool (decide (r6 + r9 + r12 > 0))) (by kernel_rfl) ?_
          exact ⟨_, _, rfl, ⟨by rw [decide_eq_true (show p * 79228162514264337593543950336 < x * x * x by omega), decide_eq_true (show r6 + r9 + r12 > 0 by omega)], rfl⟩, hs2.sub (((List.sublist_cons_self _ _).cons _).cons _)⟩
        · refine To.run 11 ?_
          refine To.one (One.load 0 (t := 27) (off := 3) (v := Value.int IntKind.u64 r15) hs2 rfl (by kernel_rfl) (by kernel_rfl) ?_)
          refine To.run 1 ?_
          refine To.one (One.load 0 (t := 27) (off := 4) (v := Value.int IntKind.u64 r16) hs2 rfl (by kernel_rfl) (by kernel_rfl) ?_)
          refine To.run 1 ?_
          refine To.known 114 _ (by kernel_rfl) (Q_shl (r16) (32) (4294967296) rfl (by first | decide | omega)) ?_
          refine To.run 1 ?_
          refine To.known 115 (v := .int .u64 (IntKind.u64.wrap (r15 + r16 * 4294967296))) (.int .u64 (r15 + r16 * 4294967296)) (by kernel_rfl) (by rw [wrap_u64 (by omega) (by omega)]) ?_
          refine To.run 3 ?_
          refine To.isTrue 118 (t := decide (r15 + r16 * 4294967296 ≥ p)) (by kernel_rfl) (by (simp; omega)) ?_
          refine To.run 1 ?_
          refine To.one (One.load 0 (t := 27) (off := 3) (v := Value.int IntKind.u64 r15) hs2 rfl (by kernel_rfl) (by kernel_rfl) ?_)
          refine To.run 1 ?_
          refine To.one (One.load 0 (t := 27) (off := 4) (v := Value.int IntKind.u64 r16) hs2 rfl (by kernel_rfl) (by kernel_rfl) ?_)
          refine To.run 1 ?_
          refine To.known 123 _ (by kernel_rfl) (Q_shl (r16) (32) (4294967296) rfl (by first | decide | omega)) ?_
          refine To.run 1 ?_
          refine To.known 124 (v := .int .u64 (IntKind.u64.wrap (r15 + r16 * 4294967296))) (.int .u64 (r15 + r16 * 4294967296)) (by kernel_rfl) (by rw [wrap_u64 (by omega) (by omega)]) ?_
          refine To.run 3 ?_
          refine To.isFalse 127 (t := decide (r15 + r16 * 4294967296 > p)) (by kernel_rfl) (by (simp; omega)) ?_
          refine To.run 1 ?_
          refine To.one (One.load 0 (t := 27) (off := 0) (v := Value.int IntKind.u64 r6) hs2 rfl (by kernel_rfl) (by kernel_rfl) ?_)
          refine To.run 1 ?_
          refine To.one (One.load 0 (t := 27) (off := 1) (v := Value.int IntKind.u64 r9) hs2 rfl (by kernel_rfl) (by kernel_rfl) ?_)
          refine To.run 1 ?_
          refine To.known 132 (v := .int .u64 (IntKind.u64.wrap (r6 + r9))) (.int .u64 (r6 + r9)) (by kernel_rfl) (by rw [wrap_u64 (by omega) (by omega)]) ?_
          refine To.run 1 ?_
          refine To.one (One.load 0 (t := 27) (off := 2) (v := Value.int IntKind.u64 r12) hs2 rfl (by kernel_rfl) (by kernel_rfl) ?_)
          refine To.run 1 ?_
          refine To.known 135 (v := .int .u64 (IntKind.u64.wrap (r6 + r9 + r12))) (.int .u64 (r6 + r9 + r12)) (by kernel_rfl) (by rw [wrap_u64 (by omega) (by omega)]) ?_
          refine To.run 5 ?_
          refine To.retv Try.func28 (by kernel_rfl) (v := Value.bool (decide (r6 + r9 + r12 > 0))) (by kernel_rfl) ?_
          exact ⟨_, _, rfl, ⟨by rw [decide_eq_false (show ¬ p * 79228162514264337593543950336 < x * x * x by omega), decide_eq_false (show ¬ r6 + r9 + r12 > 0 by omega)], rfl⟩, hs2.sub (((List.sublist_cons_self _ _).cons _).cons _)⟩
end Go.Proofs.Ytkddomellpldjaa
