import Derived.Test.YtkddomellpldjaaProg
import Derived.Test.YtkddomellpldjaaSxStr
import Derived.Test.YtkddomellpldjaaSex
import Derived.Test.YtkddomellpldjaaSrsum
set_option linter.unusedSimpArgs false
set_option linter.unusedVariables false
namespace Go.Proofs.Ytkddomellpldjaa
open Go Go.Sx
set_option linter.unusedSimpArgs false
set_option maxHeartbeats 0
set_option maxRecDepth 20000

theorem w8_lo8 (x : BitVec 32) (i : Nat) : (w8 (lo8 x)).getLsbD i = (decide (i < 8) && x.getLsbD i) := by
  have e : (lo8 x).toNat = x.toNat % 2 ^ 8 := by simp [lo8]
  unfold w8
  rw [e, BitVec.getLsbD_ofNat, Nat.testBit_mod_two_pow, BitVec.getLsbD]
  by_cases h : i < 8
  · simp [h, show i < 32 by omega]
  · simp [h]

theorem four (x : BitVec 32) : ((w8 (lo8 (x >>> 24)) <<< 24 ||| w8 (lo8 (x >>> 16)) <<< 16) ||| w8 (lo8 (x >>> 8)) <<< 8) ||| w8 (lo8 x) = x := by
  apply BitVec.eq_of_getLsbD_eq
  intro i hi
  simp only [BitVec.getLsbD_or, BitVec.getLsbD_shiftLeft, w8_lo8, BitVec.getLsbD_ushiftRight]
  by_cases h1 : i < 8
  · simp [h1, show i < 16 by omega, show i < 24 by omega]
  · by_cases h2 : i < 16
    · simp [h1, h2, show i < 32 by omega, show i < 24 by omega, show i - 8 < 8 by omega, show 8 + (i - 8) = i by omega]
    · by_cases h3 : i < 24
      · simp [h1, h2, h3, show i < 32 by omega, show ¬ i - 8 < 8 by omega, show i - 16 < 8 by omega, show 16 + (i - 16) = i by omega]
      · simp [h1, h2, h3, show i < 32 by omega, show ¬ i - 8 < 8 by omega, show ¬ i - 16 < 8 by omega, show i - 24 < 8 by omega, show 24 + (i - 24) = i by omega]

theorem be_digest (z : St8) (k : Nat) (hk : k < 8) : be (digest z) k = z.list.getD k 0 := by
  rcases k with _ | _ | _ | _ | _ | _ | _ | _ | k
  all_goals first | omega | exact four _

theorem digest_len (z : St8) : (digest z).length = 32 := rfl

theorem LW_words (W : World) (sb : Nat) (z : St8) (D : ByteArray) (hD : D = ⟨(digest z).toArray⟩) : ∀ (m k : Nat) (j : Nat → Value) (w : World), k + m = 8 → Sat W w [cel sb 26 (z.list.map U), old W] →
    To Try.prog 5 (Cfg.here Try.f5 26 j [(3, .bool true), (5, .pointer (some ⟨sb, 0, none⟩)), (9, .string D), (10, .int .i64 k)]) w (LawEnd W) := by
  intro m
  have hl : D.data.toList = digest z := by rw [hD]
  have hDl : D.data.toList.length = 32 := by rw [hl, digest_len]
  have hDs : D.size = 32 := by rw [size_list, hl, digest_len]
  induction m with
  | zero =>
    intro k j w hk hs
    obtain rfl : k = 8 := by omega
    refine To.run 13 ?_
    refine To.retv Try.func5 (by kernel_rfl) (v := Value.bool true) (by kernel_rfl) ?_
    exact hs.lawEnd 1 rfl
  | succ m ih =>
    intro k j w hk hs
    have hk8 : k < 8 := by omega
    have hb0 := byteAt D (4 * k) (by omega)
    have hb1 := byteAt D (4 * k + 1) (by omega)
    have hb2 := byteAt D (4 * k + 2) (by omega)
    have hb3 := byteAt D (4 * k + 3) (by omega)
    have hL := uLoad z.list k hk8
    have he := be_digest z k hk8
    unfold be at he
    rw [← hl] at he
    clear hD hl
    refine To.run 6 ?_
    refine To.isTrue 74 (t := decide ((↑k : Int) < 8)) (by kernel_rfl) (by (simp; omega)) ?_
    refine To.run 5 ?_
    refine To.draw [cel sb 26 (List.map U z.list), old W] [] 30 hs (by kernel_rfl) (by kernel_rfl) (by kernel_rfl) fun w1 hs1 => ?_
    clear hs
    have hb4 := Sat.holds hs1 [0, 1] rfl
    refine Reg.pures [0, 1, 2] (fuel' := 27) (.inl hb4) rfl (by kernel_rfl) ?_
    refine Reg.known 79 (v := .int .i64 (IntKind.i64.wrap (4 * (↑k : Int)))) (.int .i64 (4 * (↑k : Int))) (by kernel_rfl) (by rw [wrap_i64 (by omega) (by omega)]) ?_
    refine Reg.pures [6, 7, 8] (fuel' := 24) (.inl hb4) rfl (by kernel_rfl) ?_
    refine Reg.known 85 (v := .int .i64 (IntKind.i64.wrap (4 * (↑k : Int)))) (.int .i64 (4 * (↑k : Int))) (by kernel_rfl) (by rw [wrap_i64 (by omega) (by omega)]) ?_
    refine Reg.pures [9] (fuel' := 23) (.inl hb4) rfl (by kernel_rfl) ?_
    refine Reg.known 86 (v := .int .i64 (IntKind.i64.wrap (4 * (↑k : Int) + 1))) (.int .i64 (4 * (↑k : Int) + 1)) (by kernel_rfl) (by rw [wrap_i64 (by omega) (by omega)]) ?_
    refine Reg.pures [14, 15, 16] (fuel' := 20) (.inl hb4) rfl (by kernel_rfl) ?_
    refine Reg.known 93 (v := .int .i64 (IntKind.i64.wrap (4 * (↑k : Int)))) (.int .i64 (4 * (↑k : Int))) (by kernel_rfl) (by rw [wrap_i64 (by omega) (by omega)]) ?_
    refine Reg.pures [17] (fuel' := 19) (.inl hb4) rfl (by kernel_rfl) ?_
    refine Reg.known 94 (v := .int .i64 (IntKind.i64.wrap (4 * (↑k : Int) + 2))) (.int .i64 (4 * (↑k : Int) + 2)) (by kernel_rfl) (by rw [wrap_i64 (by omega) (by omega)]) ?_
    refine Reg.pures [22, 23, 24] (fuel' := 16) (.inl hb4) rfl (by kernel_rfl) ?_
    refine Reg.known 101 (v := .int .i64 (IntKind.i64.wrap (4 * (↑k : Int)))) (.int .i64 (4 * (↑k : Int))) (by kernel_rfl) (by rw [wrap_i64 (by omega) (by omega)]) ?_
    refine Reg.pures [25] (fuel' := 15) (.inl hb4) rfl (by kernel_rfl) ?_
    refine Reg.known 102 (v := .int .i64 (IntKind.i64.wrap (4 * (↑k : Int) + 3))) (.int .i64 (4 * (↑k : Int) + 3)) (by kernel_rfl) (by rw [wrap_i64 (by omega) (by omega)]) ?_
    refine Reg.val 3 (.inl hb4) (by kernel_rfl) (by kernel_rfl) (fun w' => Val.ixS (4 * k) (t := 9) (s := D) (kd := IntKind.i64) (i := 4 * (↑k : Int)) (x := D.data.toList.getD (4 * k) 0) (by kernel_rfl) (by kernel_rfl) (by rfl) (hb0)) ?_
    refine Reg.pures [4] (fuel' := 13) (.inl hb4) rfl (by kernel_rfl) ?_
    refine Reg.known 81 _ (by kernel_rfl) (U_of8 (D.data.toList.getD (4 * k) 0)) ?_
    refine Reg.pures [5] (fuel' := 12) (.inl hb4) rfl (by kernel_rfl) ?_
    refine Reg.known 82 _ (by kernel_rfl) (U_shl (w8 (D.data.toList.getD (4 * k) 0)) (24) (24) rfl) ?_
    refine Reg.val 10 (.inl hb4) (by kernel_rfl) (by kernel_rfl) (fun w' => Val.ixS (4 * k + 1) (t := 9) (s := D) (kd := IntKind.i64) (i := 4 * (↑k : Int) + 1) (x := D.data.toList.getD (4 * k + 1) 0) (by kernel_rfl) (by kernel_rfl) (by rfl) (hb1)) ?_
    refine Reg.pures [11] (fuel' := 10) (.inl hb4) rfl (by kernel_rfl) ?_
    refine Reg.known 88 _ (by kernel_rfl) (U_of8 (D.data.toList.getD (4 * k + 1) 0)) ?_
    refine Reg.pures [12] (fuel' := 9) (.inl hb4) rfl (by kernel_rfl) ?_
    refine Reg.known 89 _ (by kernel_rfl) (U_shl (w8 (D.data.toList.getD (4 * k + 1) 0)) (16) (16) rfl) ?_
    refine Reg.pures [13] (fuel' := 8) (.inl hb4) rfl (by kernel_rfl) ?_
    refine Reg.known 90 _ (by kernel_rfl) (U_or (w8 (D.data.toList.getD (4 * k) 0) <<< 24) (w8 (D.data.toList.getD (4 * k + 1) 0) <<< 16)) ?_
    refine Reg.val 18 (.inl hb4) (by kernel_rfl) (by kernel_rfl) (fun w' => Val.ixS (4 * k + 2) (t := 9) (s := D) (kd := IntKind.i64) (i := 4 * (↑k : Int) + 2) (x := D.data.toList.getD (4 * k + 2) 0) (by kernel_rfl) (by kernel_rfl) (by rfl) (hb2)) ?_
    refine Reg.pures [19] (fuel' := 6) (.inl hb4) rfl (by kernel_rfl) ?_
    refine Reg.known 96 _ (by kernel_rfl) (U_of8 (D.data.toList.getD (4 * k + 2) 0)) ?_
    refine Reg.pures [20] (fuel' := 5) (.inl hb4) rfl (by kernel_rfl) ?_
    refine Reg.known 97 _ (by kernel_rfl) (U_shl (w8 (D.data.toList.getD (4 * k + 2) 0)) (8) (8) rfl) ?_
    refine Reg.pures [21] (fuel' := 4) (.inl hb4) rfl (by kernel_rfl) ?_
    refine Reg.known 98 _ (by kernel_rfl) (U_or (w8 (D.data.toList.getD (4 * k) 0) <<< 24 ||| w8 (D.data.toList.getD (4 * k + 1) 0) <<< 16) (w8 (D.data.toList.getD (4 * k + 2) 0) <<< 8)) ?_
    refine Reg.step 26 (by kernel_rfl) (One.ixS (4 * k + 3) (t := 9) (s := D) (kd := IntKind.i64) (i := 4 * (↑k : Int) + 3) (x := D.data.toList.getD (4 * k + 3) 0) (by kernel_rfl) (by kernel_rfl) (by rfl) (hb3) ?_)
    have hb5 := Sat.holds hs1 [0, 1] (B := [cel sb 26 (List.map U z.list), old W]) rfl
    refine ⟨.inl hb5, ?_⟩
    refine Reg.pures [27] (fuel' := 2) (.inl hb5) rfl (by kernel_rfl) ?_
    refine Reg.known 104 _ (by kernel_rfl) (U_of8 (D.data.toList.getD (4 * k + 3) 0)) ?_
    refine Reg.pures [28] (fuel' := 1) (.inl hb5) rfl (by kernel_rfl) ?_
    refine Reg.known 105 _ (by kernel_rfl) (U_or (w8 (D.data.toList.getD (4 * k) 0) <<< 24 ||| w8 (D.data.toList.getD (4 * k + 1) 0) <<< 16 ||| w8 (D.data.toList.getD (4 * k + 2) 0) <<< 8) (w8 (D.data.toList.getD (4 * k + 3) 0))) ?_
    refine Reg.pures [29] (fuel' := 0) (.inl hb5) rfl (by kernel_rfl) ?_
    refine Reg.done (by kernel_rfl) ?_
    refine To.run 4 ?_
    refine To.one (One.ixaA (k) ((k)) (t := 26) (b := sb) (off := 0) (n := 8) (sz := 1) (kd := IntKind.i64) (i := (↑k : Int)) (by kernel_rfl) (by kernel_rfl) (rfl) (by omega) (by omega) ?_)
    refine To.one (One.load 0 (t := 25) (off := k) (v := Value.int IntKind.u32 (↑(z.list.getD k 0).toNat : Int)) hs1 rfl (by kernel_rfl) hL ?_)
    refine To.run 2 ?_
    rw [he]
    refine To.isFalse 110 (t := ((z.list.getD k 0).toNat : Int) != ((z.list.getD k 0).toNat : Int)) (by kernel_rfl) (by simp) ?_
    refine To.run 6 ?_
    refine To.known 76 (v := .int .i64 (IntKind.i64.wrap ((↑k : Int) + 1))) (.int .i64 ((↑k : Int) + 1)) (by kernel_rfl) (by rw [wrap_i64 (by omega) (by omega)]) ?_
    refine To.run 2 ?_
    refine To.run 1 ?_
    refine To.at (fn := Try.f5) (n := 26) (l := [(3, Value.bool true), (5, Value.pointer (some { block := sb, off := 0 : Addr })), (9, Value.string D), (10, Value.int IntKind.i64 ((↑k : Int) + 1))]) (by kernel_rfl) fun j => ?_
    exact ih (k + 1) _ _ (by omega) hs1

theorem LW_blocks (W : World) (sb : Nat) (t r : ByteArray) (N : Nat) (hr : r.size = 64 * N) (hN : N ≤ 100000) (z : St8)
    (fin : ∀ (j : Nat → Value) (w : World), Sat W w [cel sb 26 (z.list.map U), old W] → To Try.prog 5 (Cfg.here Try.f5 12 j [(0, .string t), (3, .bool true), (4, .string r), (5, .pointer (some ⟨sb, 0, none⟩)), (6, .int .i64 (64 * N : Nat))]) w (LawEnd W)) :
    ∀ (m q : Nat) (s : St8) (j : Nat → Value) (w : World), q + m = N → blocksS s (r.data.toList.drop (64 * q)) m = z → Sat W w [cel sb 26 (s.list.map U), old W] →
    To Try.prog 5 (Cfg.here Try.f5 12 j [(0, .string t), (3, .bool true), (4, .string r), (5, .pointer (some ⟨sb, 0, none⟩)), (6, .int .i64 (64 * q : Nat))]) w (LawEnd W) := by
  intro m
  induction m with
  | zero =>
    intro q s j w hq hz hs
    obtain rfl : q = N := by omega
    rw [show s = z from hz] at hs
    exact fin j w hs
  | succ m ih =>
    intro q s j w hq hz hs
    obtain ⟨i, hi⟩ : ∃ i, 64 * q = i := ⟨_, rfl⟩
    have hle : i + 64 ≤ r.size := by omega
    have hi2 : i ≤ 6400000 := by omega
    have hi3 : 64 * (q + 1) = i + 64 := by omega
    have c1 := Block_ok s (r.extract i (i + 64)) (by rw [ByteArray.size_extract]; omega)
    obtain ⟨s', hs'⟩ : ∃ s', blockS s (r.extract i (i + 64)).data.toList = s' := ⟨_, rfl⟩
    rw [hs'] at c1
    have hz' : blocksS s' (r.data.toList.drop (64 * (q + 1))) m = z := by
      have e1 : (r.extract i (i + 64)).data.toList = (r.data.toList.drop i).take 64 := by
        rw [extract_list, List.drop_take]
        congr 1
        omega
      rw [← hz, hi, blocksS, ← hs', e1, hi3, List.drop_drop]
    have ih := fun s j w => ih (q + 1) s j w (by omega)
    rw [hi3] at ih hz'
    rw [hi]
    unfold St8.list at hs
    simp only [List.map_cons, List.map_nil] at hs
    have hs : Sat W w [cel sb 26 [U s.a, U s.b, U s.c, U s.d, U s.e, U s.f, U s.g, U s.h], old W] := hs
    clear fin hz hi hi3 hq
    refine To.run 5 ?_
    refine To.known 43 (v := .int .i64 (IntKind.i64.wrap ((↑i : Int) + 64))) (.int .i64 ((↑i : Int) + 64)) (by kernel_rfl) (by rw [wrap_i64 (by omega) (by omega)]) ?_
    refine To.run 4 ?_
    refine To.isTrue 46 (t := decide ((↑i : Int) + 64 ≤ (↑r.size : Int))) (by kernel_rfl) (by (simp; omega)) ?_
    refine To.run 5 ?_
    refine To.draw [cel sb 26 [U s.a, U s.b, U s.c, U s.d, U s.e, U s.f, U s.g, U s.h], old W] [] 13 hs (by kernel_rfl) (by kernel_rfl) (by kernel_rfl) fun w1 hs1 => ?_
    clear hs
    have hb1 := Sat.holds hs1 [0, 1] rfl
    refine Reg.pures [1, 2, 3, 4] (fuel' := 9) (.inl hb1) rfl (by kernel_rfl) ?_
    refine Reg.known 54 (v := .int .i64 (IntKind.i64.wrap ((↑i : Int) + 64))) (.int .i64 ((↑i : Int) + 64)) (by kernel_rfl) (by rw [wrap_i64 (by omega) (by omega)]) ?_
    refine Reg.load 0 0 (t := 26) (off := 0) (v := Value.agg #[Value.int IntKind.u32 (↑s.a.toNat : Int), Value.int IntKind.u32 (↑s.b.toNat : Int), Value.int IntKind.u32 (↑s.c.toNat : Int), Value.int IntKind.u32 (↑s.d.toNat : Int), Value.int IntKind.u32 (↑s.e.toNat : Int), Value.int IntKind.u32 (↑s.f.toNat : Int), Value.int IntKind.u32 (↑s.g.toNat : Int), Value.int IntKind.u32 (↑s.h.toNat : Int)]) (.inl hb1) rfl (by kernel_rfl) (by kernel_rfl) (by kernel_rfl) ?_
    refine Reg.val 5 (.inl hb1) (by kernel_rfl) (by kernel_rfl) (fun w' => Val.slS (lo := (some (Value.int IntKind.i64 (↑i : Int)))) (hi := (some (Value.int IntKind.i64 ((↑i : Int) + 64)))) (t := 9) (s := r) (i) (i + 64) (by kernel_rfl) (by kernel_rfl) (fun v h => ⟨_, _, (Option.some.inj h).symm, rfl⟩) (fun h => by cases h) (fun v h => ⟨_, _, (Option.some.inj h).symm, by rfl⟩) (fun h => by cases h) (by first | omega | (simp; done) | (simp; omega)) (by first | omega | (simp; done) | (simp; omega))) ?_
    refine Reg.step2 6 10 (by kernel_rfl) ?_ ?_
    refine  (One.call 2 [] [0, 1] (g := 14) (args := [Value.agg #[Value.int IntKind.u32 (↑s.a.toNat : Int), Value.int IntKind.u32 (↑s.b.toNat : Int), Value.int IntKind.u32 (↑s.c.toNat : Int), Value.int IntKind.u32 (↑s.d.toNat : Int), Value.int IntKind.u32 (↑s.e.toNat : Int), Value.int IntKind.u32 (↑s.f.toNat : Int), Value.int IntKind.u32 (↑s.g.toNat : Int), Value.int IntKind.u32 (↑s.h.toNat : Int)], Value.string (r.extract i (i + 64))]) (by kernel_rfl) hs1 (c1) (by decide) rfl ?_)
    rintro _ _ w2 ⟨rfl, rfl⟩ hs2
    simp only [pickAll, List.filterMap_cons, List.filterMap_nil, List.getElem?_cons_zero, List.getElem?_cons_succ, List.cons_append, List.nil_append, List.drop_succ_cons, List.drop_zero] at hs2
    clear hs1
    have hb2 := Sat.holds hs2 [0, 1] (B := [cel sb 26 [U s.a, U s.b, U s.c, U s.d, U s.e, U s.f, U s.g, U s.h], old W]) rfl
    refine ⟨.inl hb2, ?_⟩
    refine Reg.pures [7, 8, 9] (fuel' := 3) (.inl hb2) rfl (by kernel_rfl) ?_
    refine Reg.step 10 (by kernel_rfl) (One.alloc (t := 26) [Value.int IntKind.u32 0, Value.int IntKind.u32 0, Value.int IntKind.u32 0, Value.int IntKind.u32 0, Value.int IntKind.u32 0, Value.int IntKind.u32 0, Value.int IntKind.u32 0, Value.int IntKind.u32 0] hs2 (by kernel_rfl) (by kernel_rfl) fun b1 w3 hs1 => ?_)
    clear hs2
    have hb3 := Sat.holds hs1 [1, 2] (B := [cel sb 26 [U s.a, U s.b, U s.c, U s.d, U s.e, U s.f, U s.g, U s.h], old W]) rfl
    refine ⟨.inl hb3, ?_⟩
    refine Reg.step 11 (by kernel_rfl) (One.store 0 (t := 26) (off := 0) (v := Value.agg #[Value.int IntKind.u32 (↑s'.a.toNat : Int), Value.int IntKind.u32 (↑s'.b.toNat : Int), Value.int IntKind.u32 (↑s'.c.toNat : Int), Value.int IntKind.u32 (↑s'.d.toNat : Int), Value.int IntKind.u32 (↑s'.e.toNat : Int), Value.int IntKind.u32 (↑s'.f.toNat : Int), Value.int IntKind.u32 (↑s'.g.toNat : Int), Value.int IntKind.u32 (↑s'.h.toNat : Int)]) (vs' := [Value.int IntKind.u32 (↑s'.a.toNat : Int), Value.int IntKind.u32 (↑s'.b.toNat : Int), Value.int IntKind.u32 (↑s'.c.toNat : Int), Value.int IntKind.u32 (↑s'.d.toNat : Int), Value.int IntKind.u32 (↑s'.e.toNat : Int), Value.int IntKind.u32 (↑s'.f.toNat : Int), Value.int IntKind.u32 (↑s'.g.toNat : Int), Value.int IntKind.u32 (↑s'.h.toNat : Int)]) hs1 rfl (by kernel_rfl) (by kernel_rfl) (by kernel_rfl) fun w4 hs2 => ?_)
    simp only [List.set_cons_zero, List.set_cons_succ] at hs2
    clear hs1
    have hb4 := Sat.holds hs2 [1, 2] (B := [cel sb 26 [U s.a, U s.b, U s.c, U s.d, U s.e, U s.f, U s.g, U s.h], old W]) rfl
    refine ⟨.inl hb4, ?_⟩
    refine Reg.pures [12] (fuel' := 0) (.inl hb4) rfl (by kernel_rfl) ?_
    refine Reg.done (by kernel_rfl) ?_
    rotate_left 1
    refine  (One.alloc (t := 26) [Value.int IntKind.u32 0, Value.int IntKind.u32 0, Value.int IntKind.u32 0, Value.int IntKind.u32 0, Value.int IntKind.u32 0, Value.int IntKind.u32 0, Value.int IntKind.u32 0, Value.int IntKind.u32 0] hs1 (by kernel_rfl) (by kernel_rfl) fun b1 w2 hs2 => ?_)
    clear hs1
    have hb2 := Sat.holds hs2 [1, 2] (B := [cel sb 26 [U s.a, U s.b, U s.c, U s.d, U s.e, U s.f, U s.g, U s.h], old W]) rfl
    refine ⟨.inl hb2, ?_⟩
    refine Reg.step 6 (by kernel_rfl) (One.call 3 [] [0, 1, 2] (g := 14) (args := [Value.agg #[Value.int IntKind.u32 (↑s.a.toNat : Int), Value.int IntKind.u32 (↑s.b.toNat : Int), Value.int IntKind.u32 (↑s.c.toNat : Int), Value.int IntKind.u32 (↑s.d.toNat : Int), Value.int IntKind.u32 (↑s.e.toNat : Int), Value.int IntKind.u32 (↑s.f.toNat : Int), Value.int IntKind.u32 (↑s.g.toNat : Int), Value.int IntKind.u32 (↑s.h.toNat : Int)], Value.string (r.extract i (i + 64))]) (by kernel_rfl) hs2 (c1) (by decide) rfl ?_)
    rintro _ _ w3 ⟨rfl, rfl⟩ hs1
    simp only [pickAll, List.filterMap_cons, List.filterMap_nil, List.getElem?_cons_zero, List.getElem?_cons_succ, List.cons_append, List.nil_append, List.drop_succ_cons, List.drop_zero] at hs1
    clear hs2
    have hb3 := Sat.holds hs1 [1, 2] (B := [cel sb 26 [U s.a, U s.b, U s.c, U s.d, U s.e, U s.f, U s.g, U s.h], old W]) rfl
    refine ⟨.inl hb3, ?_⟩
    refine Reg.pures [7, 8, 9] (fuel' := 2) (.inl hb3) rfl (by kernel_rfl) ?_
    refine Reg.step 11 (by kernel_rfl) (One.store 0 (t := 26) (off := 0) (v := Value.agg #[Value.int IntKind.u32 (↑s'.a.toNat : Int), Value.int IntKind.u32 (↑s'.b.toNat : Int), Value.int IntKind.u32 (↑s'.c.toNat : Int), Value.int IntKind.u32 (↑s'.d.toNat : Int), Value.int IntKind.u32 (↑s'.e.toNat : Int), Value.int IntKind.u32 (↑s'.f.toNat : Int), Value.int IntKind.u32 (↑s'.g.toNat : Int), Value.int IntKind.u32 (↑s'.h.toNat : Int)]) (vs' := [Value.int IntKind.u32 (↑s'.a.toNat : Int), Value.int IntKind.u32 (↑s'.b.toNat : Int), Value.int IntKind.u32 (↑s'.c.toNat : Int), Value.int IntKind.u32 (↑s'.d.toNat : Int), Value.int IntKind.u32 (↑s'.e.toNat : Int), Value.int IntKind.u32 (↑s'.f.toNat : Int), Value.int IntKind.u32 (↑s'.g.toNat : Int), Value.int IntKind.u32 (↑s'.h.toNat : Int)]) hs1 rfl (by kernel_rfl) (by kernel_rfl) (by kernel_rfl) fun w4 hs2 => ?_)
    simp only [List.set_cons_zero, List.set_cons_succ] at hs2
    clear hs1
    have hb4 := Sat.holds hs2 [1, 2] (B := [cel sb 26 [U s.a, U s.b, U s.c, U s.d, U s.e, U s.f, U s.g, U s.h], old W]) rfl
    refine ⟨.inl hb4, ?_⟩
    refine Reg.pures [12] (fuel' := 0) (.inl hb4) rfl (by kernel_rfl) ?_
    refine Reg.done (by kernel_rfl) ?_
    rotate_right 1
    refine To.run 9 ?_
    refine To.one (One.load 0 (t := 26) (off := 0) (v := Value.agg #[Value.int IntKind.u32 (↑s'.a.toNat : Int), Value.int IntKind.u32 (↑s'.b.toNat : Int), Value.int IntKind.u32 (↑s'.c.toNat : Int), Value.int IntKind.u32 (↑s'.d.toNat : Int), Value.int IntKind.u32 (↑s'.e.toNat : Int), Value.int IntKind.u32 (↑s'.f.toNat : Int), Value.int IntKind.u32 (↑s'.g.toNat : Int), Value.int IntKind.u32 (↑s'.h.toNat : Int)]) hs2 rfl (by kernel_rfl) (by kernel_rfl) ?_)
    refine To.one (One.store 1 (t := 26) (off := 0) (v := Value.agg #[Value.int IntKind.u32 (↑s'.a.toNat : Int), Value.int IntKind.u32 (↑s'.b.toNat : Int), Value.int IntKind.u32 (↑s'.c.toNat : Int), Value.int IntKind.u32 (↑s'.d.toNat : Int), Value.int IntKind.u32 (↑s'.e.toNat : Int), Value.int IntKind.u32 (↑s'.f.toNat : Int), Value.int IntKind.u32 (↑s'.g.toNat : Int), Value.int IntKind.u32 (↑s'.h.toNat : Int)]) (vs' := [Value.int IntKind.u32 (↑s'.a.toNat : Int), Value.int IntKind.u32 (↑s'.b.toNat : Int), Value.int IntKind.u32 (↑s'.c.toNat : Int), Value.int IntKind.u32 (↑s'.d.toNat : Int), Value.int IntKind.u32 (↑s'.e.toNat : Int), Value.int IntKind.u32 (↑s'.f.toNat : Int), Value.int IntKind.u32 (↑s'.g.toNat : Int), Value.int IntKind.u32 (↑s'.h.toNat : Int)]) hs2 rfl (by kernel_rfl) (by kernel_rfl) (by kernel_rfl) fun w5 hs1 => ?_)
    simp only [List.set_cons_zero, List.set_cons_succ] at hs1
    clear hs2
    refine To.run 5 ?_
    refine To.known 48 (v := .int .i64 (IntKind.i64.wrap ((↑i : Int) + 64))) (.int .i64 ((↑i : Int) + 64)) (by kernel_rfl) (by rw [wrap_i64 (by omega) (by omega)]) ?_
    refine To.run 2 ?_
    · refine To.run 1 ?_
      refine To.at (fn := Try.f5) (n := 12) (l := [(0, Value.string t), (3, Value.bool true), (4, Value.string r), (5, Value.pointer (some { block := sb, off := 0 : Addr })), (6, Value.int IntKind.i64 ((↑i : Int) + 64))]) (by kernel_rfl) fun j => ?_
      exact ih s' _ _ hz' (hs1.sub (List.sublist_cons_self _ _))
    · refine To.run 9 ?_
      refine To.one (One.load 0 (t := 26) (off := 0) (v := Value.agg #[Value.int IntKind.u32 (↑s'.a.toNat : Int), Value.int IntKind.u32 (↑s'.b.toNat : Int), Value.int IntKind.u32 (↑s'.c.toNat : Int), Value.int IntKind.u32 (↑s'.d.toNat : Int), Value.int IntKind.u32 (↑s'.e.toNat : Int), Value.int IntKind.u32 (↑s'.f.toNat : Int), Value.int IntKind.u32 (↑s'.g.toNat : Int), Value.int IntKind.u32 (↑s'.h.toNat : Int)]) hs2 rfl (by kernel_rfl) (by kernel_rfl) ?_)
      refine To.one (One.store 1 (t := 26) (off := 0) (v := Value.agg #[Value.int IntKind.u32 (↑s'.a.toNat : Int), Value.int IntKind.u32 (↑s'.b.toNat : Int), Value.int IntKind.u32 (↑s'.c.toNat : Int), Value.int IntKind.u32 (↑s'.d.toNat : Int), Value.int IntKind.u32 (↑s'.e.toNat : Int), Value.int IntKind.u32 (↑s'.f.toNat : Int), Value.int IntKind.u32 (↑s'.g.toNat : Int), Value.int IntKind.u32 (↑s'.h.toNat : Int)]) (vs' := [Value.int IntKind.u32 (↑s'.a.toNat : Int), Value.int IntKind.u32 (↑s'.b.toNat : Int), Value.int IntKind.u32 (↑s'.c.toNat : Int), Value.int IntKind.u32 (↑s'.d.toNat : Int), Value.int IntKind.u32 (↑s'.e.toNat : Int), Value.int IntKind.u32 (↑s'.f.toNat : Int), Value.int IntKind.u32 (↑s'.g.toNat : Int), Value.int IntKind.u32 (↑s'.h.toNat : Int)]) hs2 rfl (by kernel_rfl) (by kernel_rfl) (by kernel_rfl) fun w5 hs1 => ?_)
      simp only [List.set_cons_zero, List.set_cons_succ] at hs1
      clear hs2
      refine To.run 5 ?_
      refine To.known 48 (v := .int .i64 (IntKind.i64.wrap ((↑i : Int) + 64))) (.int .i64 ((↑i : Int) + 64)) (by kernel_rfl) (by rw [wrap_i64 (by omega) (by omega)]) ?_
      refine To.run 2 ?_
      refine To.run 1 ?_
      refine To.at (fn := Try.f5) (n := 12) (l := [(0, Value.string t), (3, Value.bool true), (4, Value.string r), (5, Value.pointer (some { block := sb, off := 0 : Addr })), (6, Value.int IntKind.i64 ((↑i : Int) + 64))]) (by kernel_rfl) fun j => ?_
      exact ih s' _ _ hz' (hs1.sub (List.sublist_cons_self _ _))

theorem LW_law (W : World) (s : ByteArray) (hs0 : s.size ≤ 1100000) : Calls Try.prog 5 #[.string s] W (LawEnd W) := by
  refine Sx.start (args := [_]) Try.func5 (by kernel_rfl) ?_
  have hs := Sat.start W
  have hnum : ((s.size : Nat) : Int) = ((s.data.toList.length : Nat) : Int) := by rw [size_list]
  have c1 := Pad_ok (s.size : Int) (by omega) (by omega)
  obtain ⟨P, hP⟩ : ∃ A : ByteArray, A = ⟨(padL s.size).toArray⟩ := ⟨_, rfl⟩
  rw [← hP] at c1
  have hPs : P.size = padZ s.size + 9 := by rw [size_list, hP]; exact padL_len _
  have hpz := padZ_lt s.size
  have hPm : (s.size + P.size) % 64 = 0 := by
    have := pad_whole s.size
    rw [padL_len] at this
    omega
  have hall : (s ++ P).size = s.size + P.size := ByteArray.size_append
  obtain ⟨N, hN⟩ : ∃ N, s.size + P.size = 64 * N := ⟨(s.size + P.size) / 64, by omega⟩
  have hm : ((((s ++ P).size : Nat) : Int).tmod 64 != 0) = false := by
    rw [Int.tmod_eq_emod_of_nonneg (by omega)]
    have : (((s ++ P).size : Nat) : Int) % 64 = 0 := by rw [hall]; omega
    rw [this]; rfl
  refine To.run 6 ?_
  refine To.one (One.call 1 [] [0] (g := 9) (args := []) (by kernel_rfl) hs (Ex_ok) (by decide) rfl ?_)
  rintro _ _ w1 ⟨rfl, rfl⟩ hs1
  simp only [pickAll, List.filterMap_cons, List.filterMap_nil, List.getElem?_cons_zero, List.getElem?_cons_succ, List.cons_append, List.nil_append, List.drop_succ_cons, List.drop_zero] at hs1
  clear hs
  refine To.run 16 ?_
  refine To.known 18 (v := .int .u64 (IntKind.u64.wrap ((↑s.size : Int)))) (.int .u64 ((↑s.size : Int))) (by kernel_rfl) (by rw [wrap_u64 (by omega) (by omega)]) ?_
  refine To.one (One.call 1 [] [0] (g := 16) (args := [Value.int IntKind.u64 (↑s.size : Int)]) (by kernel_rfl) hs1 (c1) (by decide) rfl ?_)
  rintro _ _ w2 ⟨rfl, rfl⟩ hs2
  simp only [pickAll, List.filterMap_cons, List.filterMap_nil, List.getElem?_cons_zero, List.getElem?_cons_succ, List.cons_append, List.nil_append, List.drop_succ_cons, List.drop_zero] at hs2
  clear hs1
  refine To.one (One.cat (t := 9) (x := s) (y := P) (by kernel_rfl) (by first | omega | (simp; omega)) ?_)
  refine To.run 10 ?_
  refine To.isFalse 25 (t := (↑(s ++ P).size : Int).tmod 64 != 0) (by kernel_rfl) (by assumption) ?_
  refine To.run 5 ?_
  refine To.known 30 (v := .int .i64 (IntKind.i64.wrap ((↑s.size : Int) + 9))) (.int .i64 ((↑s.size : Int) + 9)) (by kernel_rfl) (by rw [wrap_i64 (by omega) (by omega)]) ?_
  refine To.run 3 ?_
  refine To.isFalse 33 (t := decide ((↑(s ++ P).size : Int) < (↑s.size : Int) + 9)) (by kernel_rfl) (by (simp; omega)) ?_
  refine To.run 5 ?_
  refine To.known 38 (v := .int .i64 (IntKind.i64.wrap ((↑s.size : Int) + 72))) (.int .i64 ((↑s.size : Int) + 72)) (by kernel_rfl) (by rw [wrap_i64 (by omega) (by omega)]) ?_
  refine To.run 3 ?_
  refine To.isFalse 40 (t := decide ((↑(s ++ P).size : Int) > (↑s.size : Int) + 72)) (by kernel_rfl) (by (simp; omega)) ?_
  refine To.run 4 ?_
  refine To.one (One.call 1 [] [0] (g := 18) (args := []) (by kernel_rfl) hs2 (Start_ok) (by decide) rfl ?_)
  rintro _ _ w3 ⟨rfl, rfl⟩ hs1
  simp only [pickAll, List.filterMap_cons, List.filterMap_nil, List.getElem?_cons_zero, List.getElem?_cons_succ, List.cons_append, List.nil_append, List.drop_succ_cons, List.drop_zero] at hs1
  clear hs2
  refine To.one (One.alloc (t := 26) [Value.int IntKind.u32 0, Value.int IntKind.u32 0, Value.int IntKind.u32 0, Value.int IntKind.u32 0, Value.int IntKind.u32 0, Value.int IntKind.u32 0, Value.int IntKind.u32 0, Value.int IntKind.u32 0] hs1 (by kernel_rfl) (by kernel_rfl) fun b1 w4 hs2 => ?_)
  clear hs1
  refine To.one (One.store 0 (t := 26) (off := 0) (v := Value.agg #[Value.int IntKind.u32 1779033703, Value.int IntKind.u32 3144134277, Value.int IntKind.u32 1013904242, Value.int IntKind.u32 2773480762, Value.int IntKind.u32 1359893119, Value.int IntKind.u32 2600822924, Value.int IntKind.u32 528734635, Value.int IntKind.u32 1541459225]) (vs' := [Value.int IntKind.u32 1779033703, Value.int IntKind.u32 3144134277, Value.int IntKind.u32 1013904242, Value.int IntKind.u32 2773480762, Value.int IntKind.u32 1359893119, Value.int IntKind.u32 2600822924, Value.int IntKind.u32 528734635, Value.int IntKind.u32 1541459225]) hs2 rfl (by kernel_rfl) (by kernel_rfl) (by kernel_rfl) fun w5 hs1 => ?_)
  simp only [List.set_cons_zero, List.set_cons_succ] at hs1
  clear hs2
  refine To.run 7 ?_
  refine To.run 1 ?_
  refine To.at (fn := Try.f5) (n := 12) (l := [(0, Value.string s), (3, Value.bool true), (4, Value.string (s ++ P)), (5, Value.pointer (some { block := b1, off := 0 : Addr })), (6, Value.int IntKind.i64 0)]) (by kernel_rfl) fun j => ?_
  refine LW_blocks W b1 s (s ++ P) N (by omega) (by omega) (blocksS st0 (s ++ P).data.toList N) (fun j w hs => ?_) N 0 st0 _ _ (by omega) rfl hs1
  clear c1 hm hs1
  have hz : digest (blocksS st0 (s ++ P).data.toList N) = sumL s.data.toList := by
    unfold sumL
    have : (s.data.toList.length + (padL (s.data.toList.length : Int)).length) / 64 = N := by
      rw [← size_list, padL_len]; omega
    rw [this, app_list, hP, size_list]
  obtain ⟨z, hz0⟩ : ∃ z, z = blocksS st0 (s ++ P).data.toList N := ⟨_, rfl⟩
  rw [← hz0] at hz hs
  have c2 := Sum_ok s (by omega)
  rw [← hz] at c2
  obtain ⟨D, hD⟩ : ∃ A : ByteArray, A = ⟨(digest z).toArray⟩ := ⟨_, rfl⟩
  have c3 := Hex_ok D (by rw [size_list, hD, digest_len]; omega)
  rw [← hD] at c2
  have hDs : D.size = 32 := by rw [size_list, hD, digest_len]
  obtain ⟨X, hX⟩ : ∃ A : ByteArray, A = ⟨(hexL D.data.toList).toArray⟩ := ⟨_, rfl⟩
  have hXs : X.size = 64 := by rw [size_list, hX, hexL_len, ← size_list, hDs]
  rw [← hX] at c3
  have hs0 := hs
  clear hX hz hPm
  obtain ⟨i, hi⟩ : ∃ i, 64 * N = i := ⟨_, rfl⟩
  have hin : (s ++ P).size = i := by rw [← hi, hall, hN]
  have hi2 : i ≤ 6400000 := by omega
  rw [hi]
  clear hi hz0 hN
  unfold St8.list at hs
  refine To.run 5 ?_
  refine To.known 43 (v := .int .i64 (IntKind.i64.wrap ((↑i : Int) + 64))) (.int .i64 ((↑i : Int) + 64)) (by kernel_rfl) (by rw [wrap_i64 (by omega) (by omega)]) ?_
  refine To.run 4 ?_
  refine To.isFalse 46 (t := decide ((↑i : Int) + 64 ≤ (↑(s ++ P).size : Int))) (by kernel_rfl) (by (simp; omega)) ?_
  refine To.run 5 ?_
  refine To.one (One.call 2 [] [0, 1] (g := 10) (args := [Value.string s]) (by kernel_rfl) hs0 (c2) (by decide) rfl ?_)
  rintro _ _ w6 ⟨rfl, rfl⟩ hs1
  simp only [pickAll, List.filterMap_cons, List.filterMap_nil, List.getElem?_cons_zero, List.getElem?_cons_succ, List.cons_append, List.nil_append, List.drop_succ_cons, List.drop_zero] at hs1
  clear hs0
  refine To.run 9 ?_
  refine To.isFalse 67 (t := (↑D.size : Int) != 32) (by kernel_rfl) (by (simp; omega)) ?_
  refine To.run 1 ?_
  refine To.one (One.call 2 [] [0, 1] (g := 12) (args := [Value.string D]) (by kernel_rfl) hs1 (c3) (by decide) rfl ?_)
  rintro _ _ w7 ⟨rfl, rfl⟩ hs2
  simp only [pickAll, List.filterMap_cons, List.filterMap_nil, List.getElem?_cons_zero, List.getElem?_cons_succ, List.cons_append, List.nil_append, List.drop_succ_cons, List.drop_zero] at hs2
  clear hs1
  refine To.run 4 ?_
  refine To.isFalse 72 (t := (↑X.size : Int) != 64) (by kernel_rfl) (by (simp; omega)) ?_
  refine To.run 8 ?_
  refine To.run 1 ?_
  refine To.at (fn := Try.f5) (n := 26) (l := [(3, Value.bool true), (5, Value.pointer (some { block := b1, off := 0 : Addr })), (9, Value.string D), (10, Value.int IntKind.i64 0)]) (by kernel_rfl) fun j => ?_
  exact LW_words W b1 z D hD 8 0 _ _ rfl hs2
end Go.Proofs.Ytkddomellpldjaa
