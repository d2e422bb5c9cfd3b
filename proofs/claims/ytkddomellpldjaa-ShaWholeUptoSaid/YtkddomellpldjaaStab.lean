import Derived.Test.YtkddomellpldjaaProg
import Derived.Test.YtkddomellpldjaaSxStr
import Derived.Test.YtkddomellpldjaaScub
set_option linter.unusedSimpArgs false
set_option linter.unusedVariables false
namespace Go.Proofs.Ytkddomellpldjaa
open Go Go.Sx
set_option linter.unusedSimpArgs false
set_option maxHeartbeats 0
set_option maxRecDepth 20000

/-- Is one of d, d+1, .. a part of n, as long as its square is not above n? -/
def partOf (n d : Nat) : Nat → Bool
  | 0 => false
  | m + 1 => if d * d ≤ n then (if n % d = 0 then true else partOf n (d + 1) m) else false
def primeB (n : Nat) : Bool := !partOf n 2 40 && decide (1 < n)

theorem run_rem (t : TypeId) (k : IntKind) (a b : Int) (hb : b ≠ 0) (w : World) {P : Program} : (binOp .rem t (.int k a) (.int k b)).run P w = .ok (.int k (a.tmod b)) w := by
  simp [binOp, Op.intDiv, hb]

/-- The rest of a division. -/
theorem One.rem {P : Program} {c : Cfg} {w : World} {K : Value → World → Prop} {t : TypeId} {k : IntKind} {a b : Int} (r : Int) (hv : c.view = some (.bin .rem t (.int k a) (.int k b))) (hb : b ≠ 0) (hr : a.tmod b = r) (h : K (.int k r) w) : One P c w K :=
  One.bin' hv (fun _ _ => by simp [eqGuard]) (by rw [run_rem t k a b hb w, hr]) h

theorem tmod_nat (a b : Nat) : ((a : Int)).tmod (b : Int) = ((a % b : Nat) : Int) := by
  rw [Int.tmod_eq_emod_of_nonneg (by omega), Int.natCast_emod]

theorem Prime_loop (E : World) (L : List Res) (n : Nat) (hn : n ≤ 400) : ∀ (m d : Nat) (j : Nat → Value) (w : World), 2 ≤ d → d + m = 42 → Sat E w L →
    To Try.prog 24 (Cfg.here Try.f24 3 j [(0, .int .u64 n), (3, .int .u64 d)]) w (Fins E L (fun v l => v = .bool (!partOf n d m && decide (1 < n)) ∧ l = [])) := by
  intro m
  induction m with
  | zero =>
    intro d j w hd hm hs
    obtain rfl : d = 42 := by omega
    refine To.run 9 ?_
    refine To.isFalse 8 (t := decide (1764 ≤ (↑n : Int))) (by kernel_rfl) (by (simp; omega)) ?_
    refine To.run 8 ?_
    refine To.retv Try.func24 (by kernel_rfl) (v := Value.bool (decide ((↑n : Int) > 1))) (by kernel_rfl) ?_
    refine ⟨_, _, rfl, ⟨?_, rfl⟩, hs⟩
    simp only [partOf]
    congr 1
    simp
    omega
  | succ m ih =>
    intro d j w hd hm hs
    have hdd : d * d ≤ 42 * 42 := Nat.mul_le_mul (by omega) (by omega)
    have hd0 : (d : Int) ≠ 0 := by omega
    have hr := tmod_nat n d
    rw [partOf]
    by_cases h : d * d ≤ n
    · rw [if_pos h]
      by_cases h0 : n % d = 0
      · rw [if_pos h0]
        rw [h0] at hr
        refine To.run 6 ?_
        refine To.known 6 (v := .int .u64 (IntKind.u64.wrap ((↑d : Int) * (↑d : Int)))) (.int .u64 ((↑d : Int) * (↑d : Int))) (by kernel_rfl) (by rw [wrap_u64 (by omega) (by omega)]) ?_
        refine To.run 3 ?_
        refine To.isTrue 8 (t := decide ((↑d : Int) * (↑d : Int) ≤ (↑n : Int))) (by kernel_rfl) (by (simp; omega)) ?_
        refine To.run 8 ?_
        refine To.one (One.rem (t := 27) (k := .u64) (a := (n : Int)) (b := (d : Int)) 0 (by kernel_rfl) hd0 hr ?_)
        refine To.run 7 ?_
        refine To.retv Try.func24 (by kernel_rfl) (v := Value.bool false) (by kernel_rfl) ?_
        exact ⟨_, _, rfl, ⟨rfl, rfl⟩, hs⟩
      · rw [if_neg h0]
        obtain ⟨q, hq⟩ : ∃ q, n % d = q := ⟨_, rfl⟩
        rw [hq] at hr h0
        refine To.run 6 ?_
        refine To.known 6 (v := .int .u64 (IntKind.u64.wrap ((↑d : Int) * (↑d : Int)))) (.int .u64 ((↑d : Int) * (↑d : Int))) (by kernel_rfl) (by rw [wrap_u64 (by omega) (by omega)]) ?_
        refine To.run 3 ?_
        refine To.isTrue 8 (t := decide ((↑d : Int) * (↑d : Int) ≤ (↑n : Int))) (by kernel_rfl) (by (simp; omega)) ?_
        refine To.run 8 ?_
        refine To.one (One.rem (t := 27) (k := .u64) (a := (n : Int)) (b := (d : Int)) (q : Int) (by kernel_rfl) hd0 hr ?_)
        clear hr hq
        refine To.run 2 ?_
        refine To.isFalse 14 (t := (↑q : Int) == 0) (by kernel_rfl) (by (simp; omega)) ?_
        refine To.run 6 ?_
        refine To.known 10 (v := .int .u64 (IntKind.u64.wrap ((↑d : Int) + 1))) (.int .u64 ((↑d : Int) + 1)) (by kernel_rfl) (by rw [wrap_u64 (by omega) (by omega)]) ?_
        refine To.run 2 ?_
        refine To.run 1 ?_
        refine To.at (fn := Try.f24) (n := 3) (l := [(0, Value.int IntKind.u64 (↑n : Int)), (3, Value.int IntKind.u64 ((↑d : Int) + 1))]) (by kernel_rfl) fun j => ?_
        exact ih (d + 1) _ _ (by omega) (by omega) hs
    · rw [if_neg h]
      refine To.run 6 ?_
      refine To.known 6 (v := .int .u64 (IntKind.u64.wrap ((↑d : Int) * (↑d : Int)))) (.int .u64 ((↑d : Int) * (↑d : Int))) (by kernel_rfl) (by rw [wrap_u64 (by omega) (by omega)]) ?_
      refine To.run 3 ?_
      refine To.isFalse 8 (t := decide ((↑d : Int) * (↑d : Int) ≤ (↑n : Int))) (by kernel_rfl) (by (simp; omega)) ?_
      refine To.run 8 ?_
      refine To.retv Try.func24 (by kernel_rfl) (v := Value.bool (decide ((↑n : Int) > 1))) (by kernel_rfl) ?_
      refine ⟨_, _, rfl, ⟨?_, rfl⟩, hs⟩
      congr 1
      simp
      omega

theorem Prime_ok (n : Nat) (hn : n ≤ 400) : Trip Try.prog 24 [.int .u64 n] [] (fun v l => v = .bool (primeB n) ∧ l = []) := by
  refine Trip.of Try.func24 (by kernel_rfl) fun E w L hs => ?_
  simp only [List.nil_append] at hs
  refine To.run 10 ?_
  refine To.run 1 ?_
  refine To.at (fn := Try.f24) (n := 3) (l := [(0, Value.int IntKind.u64 (↑n : Int)), (3, Value.int IntKind.u64 2)]) (by kernel_rfl) fun j => ?_
  exact Prime_loop E L n hn 40 2 _ _ (by omega) rfl hs

def fr (p x : Nat) : Nat → Nat
  | 0 => x
  | k + 1 => fr p (if p * 79228162514264337593543950336 < (x + 2 ^ k) * (x + 2 ^ k) * (x + 2 ^ k) then x else x + 2 ^ k) k
def frac (p : Nat) : BitVec 32 := BitVec.ofNat 32 (fr p 0 36)

theorem U_ofNat (x : Nat) : Value.int .u32 (IntKind.u32.wrap (x : Int)) = U (BitVec.ofNat 32 x) := by
  unfold U
  rw [IntKind.wrap_u32, BitVec.toNat_ofNat]
  congr 1

theorem Cube_nat (y p : Nat) (hy : y < 137438953472) (hp : p ≤ 400) : Trip Try.prog 28 [.int .u64 y, .int .u64 p] [] (fun v l => v = .bool (decide (p * 79228162514264337593543950336 < y * y * y)) ∧ l = []) := by
  have h := Cube_ok ((y : Int) % 4294967296) ((y : Int) / 4294967296) (p : Int) (by omega) (by omega) (by omega) (by omega) (by omega) (by omega)
  have e : (y : Int) % 4294967296 + (y : Int) / 4294967296 * 4294967296 = y := by omega
  rw [e] at h
  have e2 : decide ((p : Int) * 79228162514264337593543950336 < (y : Int) * y * y) = decide (p * 79228162514264337593543950336 < y * y * y) := by
    rw [decide_eq_decide]
    have e3 : (y : Int) * y * y = ((y * y * y : Nat) : Int) := by simp
    rw [e3]
    omega
  rw [e2] at h
  exact h

theorem Frac_loop (E : World) (L : List Res) (p : Nat) (hp : p ≤ 400) : ∀ (m x : Nat) (j : Nat → Value) (w : World), m ≤ 36 → x + 2 ^ m ≤ 2 ^ 36 → Sat E w L →
    To Try.prog 25 (Cfg.here Try.f25 4 j [(0, .int .u64 p), (3, .int .u64 x), (4, .int .i64 ((m : Int) - 1))]) w (Fins E L (fun v l => v = U (BitVec.ofNat 32 (fr p x m)) ∧ l = [])) := by
  intro m
  induction m with
  | zero =>
    intro x j w hm hx hs
    refine To.run 12 ?_
    refine To.run 2 ?_
    refine To.retv Try.func25 (by kernel_rfl) (v := Value.int IntKind.u32 (IntKind.u32.wrap (↑x : Int))) (by kernel_rfl) ?_
    exact ⟨_, _, rfl, ⟨by rw [U_ofNat]; rfl, rfl⟩, hs⟩
  | succ m ih =>
    intro x j w hm hx hs
    have h2m : (2 : Nat) ^ (m + 1) = 2 ^ m + 2 ^ m := by rw [Nat.pow_succ]; omega
    obtain ⟨q, hq⟩ : ∃ q, (2 : Nat) ^ m = q := ⟨_, rfl⟩
    rw [h2m, hq] at hx
    have h36 : (2 : Nat) ^ 36 = 68719476736 := by decide
    rw [h36] at hx
    have hsh : Value.int .u64 (IntKind.u64.wrap ((x : Int) + IntKind.u64.wrap (1 * 2 ^ min (m : Int).toNat IntKind.u64.bits))) = Value.int .u64 ((x + q : Nat) : Int) := by
      have e1 : min (m : Int).toNat IntKind.u64.bits = m := by
        have : IntKind.u64.bits = 64 := rfl
        omega
      have e2 : (1 : Int) * 2 ^ m = (q : Int) := by rw [← hq]; simp
      rw [e1, e2, wrap_u64 (e := (q : Int)) (by omega) (by omega), wrap_u64 (by omega) (by omega)]
      rfl
    refine To.known 4 _ (by kernel_rfl) (show Value.int .i64 (((m + 1 : Nat) : Int) - 1) = .int .i64 (m : Int) by congr 1; omega) ?_
    rw [fr, hq]
    have c1 := Cube_nat (x + q) p (by omega) hp
    have hq36 : (2 : Nat) ^ m ≤ 68719476736 := by rw [hq]; omega
    refine To.run 15 ?_
    refine To.run 1 ?_
    refine To.run 1 ?_
    refine To.known 12 _ (by kernel_rfl) hsh ?_
    by_cases hc : p * 79228162514264337593543950336 < (x + q) * (x + q) * (x + q)
    · rw [decide_eq_true hc] at c1
      rw [if_pos hc]
      clear hsh
      refine To.one (One.call 0 [] [] (g := 28) (args := [Value.int IntKind.u64 (↑(x + q) : Int), Value.int IntKind.u64 (↑p : Int)]) (by kernel_rfl) hs (c1) (by decide) rfl ?_)
      rintro _ _ w1 ⟨rfl, rfl⟩ hs1
      simp only [pickAll, List.filterMap_cons, List.filterMap_nil, List.getElem?_cons_zero, List.getElem?_cons_succ, List.cons_append, List.nil_append, List.drop_succ_cons, List.drop_zero] at hs1
      clear hs
      refine To.run 8 ?_
      refine To.known 8 (v := .int .i64 (IntKind.i64.wrap ((↑m : Int) - 1))) (.int .i64 ((↑m : Int) - 1)) (by kernel_rfl) (by rw [wrap_i64 (by omega) (by omega)]) ?_
      refine To.run 2 ?_
      refine To.run 1 ?_
      refine To.at (fn := Try.f25) (n := 4) (l := [(0, Value.int IntKind.u64 (↑p : Int)), (3, Value.int IntKind.u64 (↑x : Int)), (4, Value.int IntKind.i64 ((↑m : Int) - 1))]) (by kernel_rfl) fun j => ?_
      exact ih x _ _ (by omega) (by rw [hq, h36]; omega) hs1
    · rw [decide_eq_false hc] at c1
      rw [if_neg hc]
      refine To.one (One.call 0 [] [] (g := 28) (args := [Value.int IntKind.u64 (↑(x + q) : Int), Value.int IntKind.u64 (↑p : Int)]) (by kernel_rfl) hs (c1) (by decide) rfl ?_)
      rintro _ _ w1 ⟨rfl, rfl⟩ hs1
      simp only [pickAll, List.filterMap_cons, List.filterMap_nil, List.getElem?_cons_zero, List.getElem?_cons_succ, List.cons_append, List.nil_append, List.drop_succ_cons, List.drop_zero] at hs1
      clear hs
      refine To.run 7 ?_
      refine To.run 1 ?_
      refine To.run 6 ?_
      refine To.known 8 (v := .int .i64 (IntKind.i64.wrap ((↑m : Int) - 1))) (.int .i64 ((↑m : Int) - 1)) (by kernel_rfl) (by rw [wrap_i64 (by omega) (by omega)]) ?_
      refine To.run 2 ?_
      refine To.known 3 _ (by kernel_rfl) hsh ?_
      refine To.run 1 ?_
      refine To.at (fn := Try.f25) (n := 4) (l := [(0, Value.int IntKind.u64 (↑p : Int)), (3, Value.int IntKind.u64 (↑(x + q) : Int)), (4, Value.int IntKind.i64 ((↑m : Int) - 1))]) (by kernel_rfl) fun j => ?_
      exact ih (x + q) _ _ (by omega) (by rw [hq, h36]; omega) hs1

theorem Frac_ok (p : Nat) (hp : p ≤ 400) : Trip Try.prog 25 [.int .u64 p] [] (fun v l => v = U (frac p) ∧ l = []) := by
  refine Trip.of Try.func25 (by kernel_rfl) fun E w L hs => ?_
  simp only [List.nil_append] at hs
  refine To.run 14 ?_
  refine To.run 1 ?_
  refine To.at (fn := Try.f25) (n := 4) (l := [(0, Value.int IntKind.u64 (↑p : Int)), (3, Value.int IntKind.u64 0), (4, Value.int IntKind.i64 35)]) (by kernel_rfl) fun j => ?_
  exact Frac_loop E L p hp 36 0 _ _ (by omega) (by decide) hs

def nextP (q : Nat) : Nat → Nat
  | 0 => q
  | m + 1 => if primeB q then q else nextP (q + 1) m
def tabL (p : Nat) (out : List (BitVec 32)) (i : Nat) : Nat → List (BitVec 32)
  | 0 => out
  | m + 1 => tabL (nextP (p + 1) 20) (out.set i (frac (nextP (p + 1) 20))) (i + 1) m
def tabOk (p : Nat) : Nat → Bool
  | 0 => true
  | m + 1 => decide (nextP (p + 1) 20 ≤ 379) && primeB (nextP (p + 1) 20) && tabOk (nextP (p + 1) 20) m

theorem tabOk_all : tabOk 1 64 = true := by decide +kernel
theorem tabL_all : tabL 1 zeros64 0 64 = K64 := by decide +kernel

theorem Next_exit (E : World) (Q : Ending → World → Prop) (L : List Res) (rb ob i z : Nat) (out : List (BitVec 32)) (hi : i < 64) (ho : out.length = 64) (hz : z ≤ 400) (hpz : primeB z = true)
    (fin : ∀ (j : Nat → Value) (w : World), Sat E w (cel ob 40 ((out.set i (frac z)).map U) :: L) → To Try.prog 20 (Cfg.here Try.f20 5 j [(0, .pointer (some ⟨rb, 0, none⟩)), (1, .pointer (some ⟨ob, 0, none⟩)), (2, .int .u64 z), (3, .int .i64 (i + 1))]) w Q) (j : Nat → Value) (w : World) (hs : Sat E w (cel ob 40 (out.map U) :: L)) :
    To Try.prog 20 (Cfg.here Try.f20 11 j [(0, .pointer (some ⟨rb, 0, none⟩)), (1, .pointer (some ⟨ob, 0, none⟩)), (2, .int .u64 z), (3, .int .i64 i)]) w Q := by
  have c1 := Prime_ok z hz
  rw [hpz] at c1
  have c2 := Frac_ok z hz
  have hS := uStore out i (by omega)
  refine To.run 4 ?_
  refine To.one (One.call 1 [] [0] (g := 24) (args := [Value.int IntKind.u64 (↑z : Int)]) (by kernel_rfl) hs (c1) (by decide) rfl ?_)
  rintro _ _ w1 ⟨rfl, rfl⟩ hs1
  simp only [pickAll, List.filterMap_cons, List.filterMap_nil, List.getElem?_cons_zero, List.getElem?_cons_succ, List.cons_append, List.nil_append, List.drop_succ_cons, List.drop_zero] at hs1
  clear hs
  refine To.run 7 ?_
  refine To.one (One.call 1 [] [0] (g := 25) (args := [Value.int IntKind.u64 (↑z : Int)]) (by kernel_rfl) hs1 (c2) (by decide) rfl ?_)
  rintro _ _ w2 ⟨rfl, rfl⟩ hs2
  simp only [pickAll, List.filterMap_cons, List.filterMap_nil, List.getElem?_cons_zero, List.getElem?_cons_succ, List.cons_append, List.nil_append, List.drop_succ_cons, List.drop_zero] at hs2
  clear hs1
  refine To.one (One.ixaA (i) ((i)) (t := 40) (b := ob) (off := 0) (n := 64) (sz := 1) (kd := IntKind.i64) (i := (↑i : Int)) (by kernel_rfl) (by kernel_rfl) (rfl) (by omega) (by omega) ?_)
  refine To.one (One.store 0 (t := 25) (off := i) (v := Value.int IntKind.u32 (↑(frac z).toNat : Int)) (vs' := List.map U (out.set i (frac z))) hs2 rfl (by kernel_rfl) (hS _) (by kernel_rfl) fun w3 hs1 => ?_)
  simp only [List.set_cons_zero, List.set_cons_succ] at hs1
  clear hs2
  refine To.run 5 ?_
  refine To.known 7 (v := .int .i64 (IntKind.i64.wrap ((↑i : Int) + 1))) (.int .i64 ((↑i : Int) + 1)) (by kernel_rfl) (by rw [wrap_i64 (by omega) (by omega)]) ?_
  refine To.run 2 ?_
  refine To.run 1 ?_
  refine To.at (fn := Try.f20) (n := 5) (l := [(0, Value.pointer (some { block := rb, off := 0 : Addr })), (1, Value.pointer (some { block := ob, off := 0 : Addr })), (2, Value.int IntKind.u64 (↑z : Int)), (3, Value.int IntKind.i64 ((↑i : Int) + 1))]) (by kernel_rfl) fun j => ?_
  exact fin _ _ (by first | exact hs1 | exact hs2 | exact hs3)

theorem Next_loop (E : World) (Q : Ending → World → Prop) (L : List Res) (rb ob i z : Nat) (out : List (BitVec 32)) (hi : i < 64) (ho : out.length = 64) (hz : z ≤ 379) (hpz : primeB z = true)
    (fin : ∀ (j : Nat → Value) (w : World), Sat E w (cel ob 40 ((out.set i (frac z)).map U) :: L) → To Try.prog 20 (Cfg.here Try.f20 5 j [(0, .pointer (some ⟨rb, 0, none⟩)), (1, .pointer (some ⟨ob, 0, none⟩)), (2, .int .u64 z), (3, .int .i64 (i + 1))]) w Q) :
    ∀ (m q : Nat) (j : Nat → Value) (w : World), nextP q m = z → q + m ≤ 400 → Sat E w (cel ob 40 (out.map U) :: L) →
    To Try.prog 20 (Cfg.here Try.f20 11 j [(0, .pointer (some ⟨rb, 0, none⟩)), (1, .pointer (some ⟨ob, 0, none⟩)), (2, .int .u64 q), (3, .int .i64 i)]) w Q := by
  intro m
  induction m with
  | zero =>
    intro q j w hq hq4 hs
    obtain rfl : q = z := hq
    exact Next_exit E Q L rb ob i q out hi ho (by omega) hpz fin j w hs
  | succ m ih =>
    intro q j w hq hq4 hs
    have c1 := Prime_ok q (by omega)
    rw [nextP] at hq
    cases hb : primeB q with
    | true =>
      rw [hb] at hq
      obtain rfl : q = z := hq
      exact Next_exit E Q L rb ob i q out hi ho (by omega) hpz fin j w hs
    | false =>
      rw [hb] at hq c1
      have hq : nextP (q + 1) m = z := hq
      clear fin
      refine To.run 4 ?_
      refine To.one (One.call 1 [] [0] (g := 24) (args := [Value.int IntKind.u64 (↑q : Int)]) (by kernel_rfl) hs (c1) (by decide) rfl ?_)
      rintro _ _ w1 ⟨rfl, rfl⟩ hs1
      simp only [pickAll, List.filterMap_cons, List.filterMap_nil, List.getElem?_cons_zero, List.getElem?_cons_succ, List.cons_append, List.nil_append, List.drop_succ_cons, List.drop_zero] at hs1
      clear hs
      refine To.run 8 ?_
      refine To.known 14 (v := .int .u64 (IntKind.u64.wrap ((↑q : Int) + 1))) (.int .u64 ((↑q : Int) + 1)) (by kernel_rfl) (by rw [wrap_u64 (by omega) (by omega)]) ?_
      refine To.run 3 ?_
      refine To.run 1 ?_
      refine To.at (fn := Try.f20) (n := 11) (l := [(0, Value.pointer (some { block := rb, off := 0 : Addr })), (1, Value.pointer (some { block := ob, off := 0 : Addr })), (2, Value.int IntKind.u64 ((↑q : Int) + 1)), (3, Value.int IntKind.i64 (↑i : Int))]) (by kernel_rfl) fun j => ?_
      exact ih (q + 1) _ _ hq (by omega) (by first | exact hs1 | exact hs2)

theorem Tab_loop (E : World) (L : List Res) (rb ob : Nat) (T : List (BitVec 32)) (hT : T = K64) : ∀ (m i p : Nat) (out : List (BitVec 32)) (j : Nat → Value) (w : World), i + m = 64 → out.length = 64 → p ≤ 379 → tabOk p m = true → tabL p out i m = T → Sat E w (cel ob 40 (out.map U) :: cel rb 40 (zeros64.map U) :: L) →
    To Try.prog 20 (Cfg.here Try.f20 5 j [(0, .pointer (some ⟨rb, 0, none⟩)), (1, .pointer (some ⟨ob, 0, none⟩)), (2, .int .u64 p), (3, .int .i64 i)]) w (Fins E L (fun v l => v = aggU K64 ∧ l = [])) := by
  intro m
  induction m with
  | zero =>
    intro i p out j w hi ho hp hok ht hs
    obtain rfl : i = 64 := by omega
    have ht : out = T := ht
    rw [ht, hT] at hs
    refine To.run 10 ?_
    refine To.one (One.load 0 (t := 40) (off := 0) (v := Value.agg #[Value.int IntKind.u32 1116352408, Value.int IntKind.u32 1899447441, Value.int IntKind.u32 3049323471, Value.int IntKind.u32 3921009573, Value.int IntKind.u32 961987163, Value.int IntKind.u32 1508970993, Value.int IntKind.u32 2453635748, Value.int IntKind.u32 2870763221, Value.int IntKind.u32 3624381080, Value.int IntKind.u32 310598401, Value.int IntKind.u32 607225278, Value.int IntKind.u32 1426881987, Value.int IntKind.u32 1925078388, Value.int IntKind.u32 2162078206, Value.int IntKind.u32 2614888103, Value.int IntKind.u32 3248222580, Value.int IntKind.u32 3835390401, Value.int IntKind.u32 4022224774, Value.int IntKind.u32 264347078, Value.int IntKind.u32 604807628, Value.int IntKind.u32 770255983, Value.int IntKind.u32 1249150122, Value.int IntKind.u32 1555081692, Value.int IntKind.u32 1996064986, Value.int IntKind.u32 2554220882, Value.int IntKind.u32 2821834349, Value.int IntKind.u32 2952996808, Value.int IntKind.u32 3210313671, Value.int IntKind.u32 3336571891, Value.int IntKind.u32 3584528711, Value.int IntKind.u32 113926993, Value.int IntKind.u32 338241895, Value.int IntKind.u32 666307205, Value.int IntKind.u32 773529912, Value.int IntKind.u32 1294757372, Value.int IntKind.u32 1396182291, Value.int IntKind.u32 1695183700, Value.int IntKind.u32 1986661051, Value.int IntKind.u32 2177026350, Value.int IntKind.u32 2456956037, Value.int IntKind.u32 2730485921, Value.int IntKind.u32 2820302411, Value.int IntKind.u32 3259730800, Value.int IntKind.u32 3345764771, Value.int IntKind.u32 3516065817, Value.int IntKind.u32 3600352804, Value.int IntKind.u32 4094571909, Value.int IntKind.u32 275423344, Value.int IntKind.u32 430227734, Value.int IntKind.u32 506948616, Value.int IntKind.u32 659060556, Value.int IntKind.u32 883997877, Value.int IntKind.u32 958139571, Value.int IntKind.u32 1322822218, Value.int IntKind.u32 1537002063, Value.int IntKind.u32 1747873779, Value.int IntKind.u32 1955562222, Value.int IntKind.u32 2024104815, Value.int IntKind.u32 2227730452, Value.int IntKind.u32 2361852424, Value.int IntKind.u32 2428436474, Value.int IntKind.u32 2756734187, Value.int IntKind.u32 3204031479, Value.int IntKind.u32 3329325298]) hs rfl (by kernel_rfl) (by kernel_rfl) ?_)
    refine To.one (One.store 1 (t := 40) (off := 0) (v := Value.agg #[Value.int IntKind.u32 1116352408, Value.int IntKind.u32 1899447441, Value.int IntKind.u32 3049323471, Value.int IntKind.u32 3921009573, Value.int IntKind.u32 961987163, Value.int IntKind.u32 1508970993, Value.int IntKind.u32 2453635748, Value.int IntKind.u32 2870763221, Value.int IntKind.u32 3624381080, Value.int IntKind.u32 310598401, Value.int IntKind.u32 607225278, Value.int IntKind.u32 1426881987, Value.int IntKind.u32 1925078388, Value.int IntKind.u32 2162078206, Value.int IntKind.u32 2614888103, Value.int IntKind.u32 3248222580, Value.int IntKind.u32 3835390401, Value.int IntKind.u32 4022224774, Value.int IntKind.u32 264347078, Value.int IntKind.u32 604807628, Value.int IntKind.u32 770255983, Value.int IntKind.u32 1249150122, Value.int IntKind.u32 1555081692, Value.int IntKind.u32 1996064986, Value.int IntKind.u32 2554220882, Value.int IntKind.u32 2821834349, Value.int IntKind.u32 2952996808, Value.int IntKind.u32 3210313671, Value.int IntKind.u32 3336571891, Value.int IntKind.u32 3584528711, Value.int IntKind.u32 113926993, Value.int IntKind.u32 338241895, Value.int IntKind.u32 666307205, Value.int IntKind.u32 773529912, Value.int IntKind.u32 1294757372, Value.int IntKind.u32 1396182291, Value.int IntKind.u32 1695183700, Value.int IntKind.u32 1986661051, Value.int IntKind.u32 2177026350, Value.int IntKind.u32 2456956037, Value.int IntKind.u32 2730485921, Value.int IntKind.u32 2820302411, Value.int IntKind.u32 3259730800, Value.int IntKind.u32 3345764771, Value.int IntKind.u32 3516065817, Value.int IntKind.u32 3600352804, Value.int IntKind.u32 4094571909, Value.int IntKind.u32 275423344, Value.int IntKind.u32 430227734, Value.int IntKind.u32 506948616, Value.int IntKind.u32 659060556, Value.int IntKind.u32 883997877, Value.int IntKind.u32 958139571, Value.int IntKind.u32 1322822218, Value.int IntKind.u32 1537002063, Value.int IntKind.u32 1747873779, Value.int IntKind.u32 1955562222, Value.int IntKind.u32 2024104815, Value.int IntKind.u32 2227730452, Value.int IntKind.u32 2361852424, Value.int IntKind.u32 2428436474, Value.int IntKind.u32 2756734187, Value.int IntKind.u32 3204031479, Value.int IntKind.u32 3329325298]) (vs' := [Value.int IntKind.u32 1116352408, Value.int IntKind.u32 1899447441, Value.int IntKind.u32 3049323471, Value.int IntKind.u32 3921009573, Value.int IntKind.u32 961987163, Value.int IntKind.u32 1508970993, Value.int IntKind.u32 2453635748, Value.int IntKind.u32 2870763221, Value.int IntKind.u32 3624381080, Value.int IntKind.u32 310598401, Value.int IntKind.u32 607225278, Value.int IntKind.u32 1426881987, Value.int IntKind.u32 1925078388, Value.int IntKind.u32 2162078206, Value.int IntKind.u32 2614888103, Value.int IntKind.u32 3248222580, Value.int IntKind.u32 3835390401, Value.int IntKind.u32 4022224774, Value.int IntKind.u32 264347078, Value.int IntKind.u32 604807628, Value.int IntKind.u32 770255983, Value.int IntKind.u32 1249150122, Value.int IntKind.u32 1555081692, Value.int IntKind.u32 1996064986, Value.int IntKind.u32 2554220882, Value.int IntKind.u32 2821834349, Value.int IntKind.u32 2952996808, Value.int IntKind.u32 3210313671, Value.int IntKind.u32 3336571891, Value.int IntKind.u32 3584528711, Value.int IntKind.u32 113926993, Value.int IntKind.u32 338241895, Value.int IntKind.u32 666307205, Value.int IntKind.u32 773529912, Value.int IntKind.u32 1294757372, Value.int IntKind.u32 1396182291, Value.int IntKind.u32 1695183700, Value.int IntKind.u32 1986661051, Value.int IntKind.u32 2177026350, Value.int IntKind.u32 2456956037, Value.int IntKind.u32 2730485921, Value.int IntKind.u32 2820302411, Value.int IntKind.u32 3259730800, Value.int IntKind.u32 3345764771, Value.int IntKind.u32 3516065817, Value.int IntKind.u32 3600352804, Value.int IntKind.u32 4094571909, Value.int IntKind.u32 275423344, Value.int IntKind.u32 430227734, Value.int IntKind.u32 506948616, Value.int IntKind.u32 659060556, Value.int IntKind.u32 883997877, Value.int IntKind.u32 958139571, Value.int IntKind.u32 1322822218, Value.int IntKind.u32 1537002063, Value.int IntKind.u32 1747873779, Value.int IntKind.u32 1955562222, Value.int IntKind.u32 2024104815, Value.int IntKind.u32 2227730452, Value.int IntKind.u32 2361852424, Value.int IntKind.u32 2428436474, Value.int IntKind.u32 2756734187, Value.int IntKind.u32 3204031479, Value.int IntKind.u32 3329325298]) hs rfl (by kernel_rfl) (by kernel_rfl) (by kernel_rfl) fun w1 hs1 => ?_)
    simp only [List.set_cons_zero, List.set_cons_succ] at hs1
    clear hs
    refine To.run 1 ?_
    refine To.retCell 1 0 (t := 40) (off := 0) (v := Value.agg #[Value.int IntKind.u32 1116352408, Value.int IntKind.u32 1899447441, Value.int IntKind.u32 3049323471, Value.int IntKind.u32 3921009573, Value.int IntKind.u32 961987163, Value.int IntKind.u32 1508970993, Value.int IntKind.u32 2453635748, Value.int IntKind.u32 2870763221, Value.int IntKind.u32 3624381080, Value.int IntKind.u32 310598401, Value.int IntKind.u32 607225278, Value.int IntKind.u32 1426881987, Value.int IntKind.u32 1925078388, Value.int IntKind.u32 2162078206, Value.int IntKind.u32 2614888103, Value.int IntKind.u32 3248222580, Value.int IntKind.u32 3835390401, Value.int IntKind.u32 4022224774, Value.int IntKind.u32 264347078, Value.int IntKind.u32 604807628, Value.int IntKind.u32 770255983, Value.int IntKind.u32 1249150122, Value.int IntKind.u32 1555081692, Value.int IntKind.u32 1996064986, Value.int IntKind.u32 2554220882, Value.int IntKind.u32 2821834349, Value.int IntKind.u32 2952996808, Value.int IntKind.u32 3210313671, Value.int IntKind.u32 3336571891, Value.int IntKind.u32 3584528711, Value.int IntKind.u32 113926993, Value.int IntKind.u32 338241895, Value.int IntKind.u32 666307205, Value.int IntKind.u32 773529912, Value.int IntKind.u32 1294757372, Value.int IntKind.u32 1396182291, Value.int IntKind.u32 1695183700, Value.int IntKind.u32 1986661051, Value.int IntKind.u32 2177026350, Value.int IntKind.u32 2456956037, Value.int IntKind.u32 2730485921, Value.int IntKind.u32 2820302411, Value.int IntKind.u32 3259730800, Value.int IntKind.u32 3345764771, Value.int IntKind.u32 3516065817, Value.int IntKind.u32 3600352804, Value.int IntKind.u32 4094571909, Value.int IntKind.u32 275423344, Value.int IntKind.u32 430227734, Value.int IntKind.u32 506948616, Value.int IntKind.u32 659060556, Value.int IntKind.u32 883997877, Value.int IntKind.u32 958139571, Value.int IntKind.u32 1322822218, Value.int IntKind.u32 1537002063, Value.int IntKind.u32 1747873779, Value.int IntKind.u32 1955562222, Value.int IntKind.u32 2024104815, Value.int IntKind.u32 2227730452, Value.int IntKind.u32 2361852424, Value.int IntKind.u32 2428436474, Value.int IntKind.u32 2756734187, Value.int IntKind.u32 3204031479, Value.int IntKind.u32 3329325298]) hs1 rfl Try.func20 (by kernel_rfl) (by kernel_rfl) (by kernel_rfl) (by kernel_rfl) ?_
    exact ⟨_, _, rfl, ⟨by kernel_rfl, rfl⟩, hs1.sub ((List.sublist_cons_self _ _).cons _)⟩
  | succ m ih =>
    intro i p out j w hi ho hp hok ht hs
    rw [tabL] at ht
    rw [tabOk] at hok
    obtain ⟨z, hz⟩ : ∃ z, nextP (p + 1) 20 = z := ⟨_, rfl⟩
    rw [hz] at ht hok
    simp only [Bool.and_eq_true, decide_eq_true_eq] at hok
    have hi64 : i < 64 := by omega
    refine To.run 6 ?_
    refine To.isTrue 5 (t := decide ((↑i : Int) < 64)) (by kernel_rfl) (by (simp; omega)) ?_
    refine To.run 8 ?_
    refine To.known 9 (v := .int .u64 (IntKind.u64.wrap ((↑p : Int) + 1))) (.int .u64 ((↑p : Int) + 1)) (by kernel_rfl) (by rw [wrap_u64 (by omega) (by omega)]) ?_
    refine To.run 4 ?_
    refine To.run 1 ?_
    refine To.at (fn := Try.f20) (n := 11) (l := [(0, Value.pointer (some { block := rb, off := 0 : Addr })), (1, Value.pointer (some { block := ob, off := 0 : Addr })), (2, Value.int IntKind.u64 ((↑p : Int) + 1)), (3, Value.int IntKind.i64 (↑i : Int))]) (by kernel_rfl) fun j => ?_
    exact Next_loop E _ _ rb ob i z out hi64 ho hok.1.1 hok.1.2 (fun j w hs => ih (i + 1) z _ j w (by omega) (by simp [ho]) hok.1.1 hok.2 ht hs) 20 (p + 1) _ _ hz (by omega) hs

theorem Table_ok : Trip Try.prog 20 [] [] (fun v l => v = aggU K64 ∧ l = []) := by
  refine Trip.of Try.func20 (by kernel_rfl) fun E w L hs => ?_
  simp only [List.nil_append] at hs
  refine To.run 2 ?_
  refine To.one (One.alloc (t := 40) [Value.int IntKind.u32 0, Value.int IntKind.u32 0, Value.int IntKind.u32 0, Value.int IntKind.u32 0, Value.int IntKind.u32 0, Value.int IntKind.u32 0, Value.int IntKind.u32 0, Value.int IntKind.u32 0, Value.int IntKind.u32 0, Value.int IntKind.u32 0, Value.int IntKind.u32 0, Value.int IntKind.u32 0, Value.int IntKind.u32 0, Value.int IntKind.u32 0, Value.int IntKind.u32 0, Value.int IntKind.u32 0, Value.int IntKind.u32 0, Value.int IntKind.u32 0, Value.int IntKind.u32 0, Value.int IntKind.u32 0, Value.int IntKind.u32 0, Value.int IntKind.u32 0, Value.int IntKind.u32 0, Value.int IntKind.u32 0, Value.int IntKind.u32 0, Value.int IntKind.u32 0, Value.int IntKind.u32 0, Value.int IntKind.u32 0, Value.int IntKind.u32 0, Value.int IntKind.u32 0, Value.int IntKind.u32 0, Value.int IntKind.u32 0, Value.int IntKind.u32 0, Value.int IntKind.u32 0, Value.int IntKind.u32 0, Value.int IntKind.u32 0, Value.int IntKind.u32 0, Value.int IntKind.u32 0, Value.int IntKind.u32 0, Value.int IntKind.u32 0, Value.int IntKind.u32 0, Value.int IntKind.u32 0, Value.int IntKind.u32 0, Value.int IntKind.u32 0, Value.int IntKind.u32 0, Value.int IntKind.u32 0, Value.int IntKind.u32 0, Value.int IntKind.u32 0, Value.int IntKind.u32 0, Value.int IntKind.u32 0, Value.int IntKind.u32 0, Value.int IntKind.u32 0, Value.int IntKind.u32 0, Value.int IntKind.u32 0, Value.int IntKind.u32 0, Value.int IntKind.u32 0, Value.int IntKind.u32 0, Value.int IntKind.u32 0, Value.int IntKind.u32 0, Value.int IntKind.u32 0, Value.int IntKind.u32 0, Value.int IntKind.u32 0, Value.int IntKind.u32 0, Value.int IntKind.u32 0] hs (by kernel_rfl) (by kernel_rfl) fun b1 w1 hs1 => ?_)
  clear hs
  refine To.run 3 ?_
  refine To.one (One.alloc (t := 40) [Value.int IntKind.u32 0, Value.int IntKind.u32 0, Value.int IntKind.u32 0, Value.int IntKind.u32 0, Value.int IntKind.u32 0, Value.int IntKind.u32 0, Value.int IntKind.u32 0, Value.int IntKind.u32 0, Value.int IntKind.u32 0, Value.int IntKind.u32 0, Value.int IntKind.u32 0, Value.int IntKind.u32 0, Value.int IntKind.u32 0, Value.int IntKind.u32 0, Value.int IntKind.u32 0, Value.int IntKind.u32 0, Value.int IntKind.u32 0, Value.int IntKind.u32 0, Value.int IntKind.u32 0, Value.int IntKind.u32 0, Value.int IntKind.u32 0, Value.int IntKind.u32 0, Value.int IntKind.u32 0, Value.int IntKind.u32 0, Value.int IntKind.u32 0, Value.int IntKind.u32 0, Value.int IntKind.u32 0, Value.int IntKind.u32 0, Value.int IntKind.u32 0, Value.int IntKind.u32 0, Value.int IntKind.u32 0, Value.int IntKind.u32 0, Value.int IntKind.u32 0, Value.int IntKind.u32 0, Value.int IntKind.u32 0, Value.int IntKind.u32 0, Value.int IntKind.u32 0, Value.int IntKind.u32 0, Value.int IntKind.u32 0, Value.int IntKind.u32 0, Value.int IntKind.u32 0, Value.int IntKind.u32 0, Value.int IntKind.u32 0, Value.int IntKind.u32 0, Value.int IntKind.u32 0, Value.int IntKind.u32 0, Value.int IntKind.u32 0, Value.int IntKind.u32 0, Value.int IntKind.u32 0, Value.int IntKind.u32 0, Value.int IntKind.u32 0, Value.int IntKind.u32 0, Value.int IntKind.u32 0, Value.int IntKind.u32 0, Value.int IntKind.u32 0, Value.int IntKind.u32 0, Value.int IntKind.u32 0, Value.int IntKind.u32 0, Value.int IntKind.u32 0, Value.int IntKind.u32 0, Value.int IntKind.u32 0, Value.int IntKind.u32 0, Value.int IntKind.u32 0, Value.int IntKind.u32 0] hs1 (by kernel_rfl) (by kernel_rfl) fun b2 w2 hs2 => ?_)
  clear hs1
  refine To.run 11 ?_
  refine To.run 1 ?_
  refine To.at (fn := Try.f20) (n := 5) (l := [(0, Value.pointer (some { block := b1, off := 0 : Addr })), (1, Value.pointer (some { block := b2, off := 0 : Addr })), (2, Value.int IntKind.u64 1), (3, Value.int IntKind.i64 0)]) (by kernel_rfl) fun j => ?_
  have hs9 : Sat E _ (cel b2 40 (zeros64.map U) :: cel b1 40 (zeros64.map U) :: L) := hs2
  have h := Tab_loop E L b1 b2 _ tabL_all 64 0 1 zeros64 j _ rfl rfl (by decide) tabOk_all rfl hs9
  exact h
end Go.Proofs.Ytkddomellpldjaa
