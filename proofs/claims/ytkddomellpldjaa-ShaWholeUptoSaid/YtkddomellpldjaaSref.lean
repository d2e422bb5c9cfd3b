import Derived.Test.YtkddomellpldjaaProg
import Derived.Test.YtkddomellpldjaaSxStr
import Derived.Test.YtkddomellpldjaaSspec
set_option linter.unusedSimpArgs false
set_option linter.unusedVariables false
namespace Go.Proofs.Ytkddomellpldjaa
open Go Go.Sx
set_option linter.unusedSimpArgs false
set_option maxHeartbeats 0
set_option maxRecDepth 20000

theorem byteAt (b : ByteArray) (i : Nat) (h : i < b.data.toList.length) : b.data.toList[i]? = some (b.data.toList.getD i 0) := by
  rw [List.getElem?_eq_getElem h, List.getD_eq_getElem?_getD, List.getElem?_eq_getElem h]
  rfl

theorem RB_fill (E : World) (Q : Ending → World → Prop) (L : List Res) (sb kb wb rb : Nat) (b : ByteArray) (hb : b.data.toList.length = 64) (W : List (BitVec 32))
    (fin : ∀ (j : Nat → Value) (w : World), Sat E w (cel wb 40 (W.map U) :: L) → To Try.prog 21 (Cfg.here Try.f21 10 j [(3, .pointer (some ⟨sb, 0, none⟩)), (5, .pointer (some ⟨kb, 0, none⟩)), (6, .pointer (some ⟨rb, 0, none⟩)), (7, .pointer (some ⟨wb, 0, none⟩)), (9, .int .i64 16)]) w Q) :
    ∀ (m k : Nat) (ws : List (BitVec 32)) (j : Nat → Value) (w : World), k + m = 16 → ws.length = 64 → fillR b.data.toList ws k m = W → Sat E w (cel wb 40 (ws.map U) :: L) →
    To Try.prog 21 (Cfg.here Try.f21 4 j [(1, .string b), (3, .pointer (some ⟨sb, 0, none⟩)), (5, .pointer (some ⟨kb, 0, none⟩)), (6, .pointer (some ⟨rb, 0, none⟩)), (7, .pointer (some ⟨wb, 0, none⟩)), (8, .int .i64 k)]) w Q := by
  intro m
  induction m with
  | zero =>
    intro k ws j w hk hl hf hs
    obtain rfl : k = 16 := by omega
    rw [show ws = W from hf] at hs
    refine To.run 14 ?_
    refine To.run 1 ?_
    refine To.at (fn := Try.f21) (n := 10) (l := [(3, Value.pointer (some { block := sb, off := 0 })), (5, Value.pointer (some { block := kb, off := 0 })), (6, Value.pointer (some { block := rb, off := 0 })), (7, Value.pointer (some { block := wb, off := 0 })), (9, Value.int IntKind.i64 16)]) (by kernel_rfl) fun j => ?_
    exact fin _ _ hs
  | succ m ih =>
    intro k ws j w hk hl hf hs
    have hk16 : k < 16 := by omega
    have hb0 := byteAt b (4 * k) (by omega)
    have hb1 := byteAt b (4 * k + 1) (by omega)
    have hb2 := byteAt b (4 * k + 2) (by omega)
    have hb3 := byteAt b (4 * k + 3) (by omega)
    have hS := uStore ws k (by omega)
    clear fin
    refine To.run 6 ?_
    refine To.isTrue 20 (t := decide ((↑k : Int) < 16)) (by kernel_rfl) (by (simp; omega)) ?_
    refine To.run 4 ?_
    refine To.draw [cel wb 40 (List.map U ws)] [31] 32 hs (by kernel_rfl) (by kernel_rfl) (by kernel_rfl) fun w1 hs1 => ?_
    clear hs
    have hb4 := Sat.holds hs1 [0] rfl
    refine Reg.pures [0, 1, 2, 3] (fuel' := 28) (.inl hb4) rfl (by kernel_rfl) ?_
    refine Reg.known 26 (v := .int .i64 (IntKind.i64.wrap (4 * (↑k : Int)))) (.int .i64 (4 * (↑k : Int))) (by kernel_rfl) (by rw [wrap_i64 (by omega) (by omega)]) ?_
    refine Reg.pures [7, 8, 9] (fuel' := 25) (.inl hb4) rfl (by kernel_rfl) ?_
    refine Reg.known 32 (v := .int .i64 (IntKind.i64.wrap (4 * (↑k : Int)))) (.int .i64 (4 * (↑k : Int))) (by kernel_rfl) (by rw [wrap_i64 (by omega) (by omega)]) ?_
    refine Reg.pures [10] (fuel' := 24) (.inl hb4) rfl (by kernel_rfl) ?_
    refine Reg.known 33 (v := .int .i64 (IntKind.i64.wrap (4 * (↑k : Int) + 1))) (.int .i64 (4 * (↑k : Int) + 1)) (by kernel_rfl) (by rw [wrap_i64 (by omega) (by omega)]) ?_
    refine Reg.pures [15, 16, 17] (fuel' := 21) (.inl hb4) rfl (by kernel_rfl) ?_
    refine Reg.known 40 (v := .int .i64 (IntKind.i64.wrap (4 * (↑k : Int)))) (.int .i64 (4 * (↑k : Int))) (by kernel_rfl) (by rw [wrap_i64 (by omega) (by omega)]) ?_
    refine Reg.pures [18] (fuel' := 20) (.inl hb4) rfl (by kernel_rfl) ?_
    refine Reg.known 41 (v := .int .i64 (IntKind.i64.wrap (4 * (↑k : Int) + 2))) (.int .i64 (4 * (↑k : Int) + 2)) (by kernel_rfl) (by rw [wrap_i64 (by omega) (by omega)]) ?_
    refine Reg.pures [23, 24, 25] (fuel' := 17) (.inl hb4) rfl (by kernel_rfl) ?_
    refine Reg.known 48 (v := .int .i64 (IntKind.i64.wrap (4 * (↑k : Int)))) (.int .i64 (4 * (↑k : Int))) (by kernel_rfl) (by rw [wrap_i64 (by omega) (by omega)]) ?_
    refine Reg.pures [26] (fuel' := 16) (.inl hb4) rfl (by kernel_rfl) ?_
    refine Reg.known 49 (v := .int .i64 (IntKind.i64.wrap (4 * (↑k : Int) + 3))) (.int .i64 (4 * (↑k : Int) + 3)) (by kernel_rfl) (by rw [wrap_i64 (by omega) (by omega)]) ?_
    refine Reg.val 4 (.inl hb4) (by kernel_rfl) (by kernel_rfl) (fun w' => Val.ixS (4 * k) (t := 9) (s := b) (kd := IntKind.i64) (i := 4 * (↑k : Int)) (x := b.data.toList.getD (4 * k) 0) (by kernel_rfl) (by kernel_rfl) (by rfl) (hb0)) ?_
    refine Reg.pures [5] (fuel' := 14) (.inl hb4) rfl (by kernel_rfl) ?_
    refine Reg.known 28 _ (by kernel_rfl) (U_of8 (b.data.toList.getD (4 * k) 0)) ?_
    refine Reg.pures [6] (fuel' := 13) (.inl hb4) rfl (by kernel_rfl) ?_
    refine Reg.known 29 _ (by kernel_rfl) (U_shl (w8 (b.data.toList.getD (4 * k) 0)) (24) (24) rfl) ?_
    refine Reg.val 11 (.inl hb4) (by kernel_rfl) (by kernel_rfl) (fun w' => Val.ixS (4 * k + 1) (t := 9) (s := b) (kd := IntKind.i64) (i := 4 * (↑k : Int) + 1) (x := b.data.toList.getD (4 * k + 1) 0) (by kernel_rfl) (by kernel_rfl) (by rfl) (hb1)) ?_
    refine Reg.pures [12] (fuel' := 11) (.inl hb4) rfl (by kernel_rfl) ?_
    refine Reg.known 35 _ (by kernel_rfl) (U_of8 (b.data.toList.getD (4 * k + 1) 0)) ?_
    refine Reg.pures [13] (fuel' := 10) (.inl hb4) rfl (by kernel_rfl) ?_
    refine Reg.known 36 _ (by kernel_rfl) (U_shl (w8 (b.data.toList.getD (4 * k + 1) 0)) (16) (16) rfl) ?_
    refine Reg.pures [14] (fuel' := 9) (.inl hb4) rfl (by kernel_rfl) ?_
    refine Reg.known 37 _ (by kernel_rfl) (U_or (w8 (b.data.toList.getD (4 * k) 0) <<< 24) (w8 (b.data.toList.getD (4 * k + 1) 0) <<< 16)) ?_
    refine Reg.val 19 (.inl hb4) (by kernel_rfl) (by kernel_rfl) (fun w' => Val.ixS (4 * k + 2) (t := 9) (s := b) (kd := IntKind.i64) (i := 4 * (↑k : Int) + 2) (x := b.data.toList.getD (4 * k + 2) 0) (by kernel_rfl) (by kernel_rfl) (by rfl) (hb2)) ?_
    refine Reg.pures [20] (fuel' := 7) (.inl hb4) rfl (by kernel_rfl) ?_
    refine Reg.known 43 _ (by kernel_rfl) (U_of8 (b.data.toList.getD (4 * k + 2) 0)) ?_
    refine Reg.pures [21] (fuel' := 6) (.inl hb4) rfl (by kernel_rfl) ?_
    refine Reg.known 44 _ (by kernel_rfl) (U_shl (w8 (b.data.toList.getD (4 * k + 2) 0)) (8) (8) rfl) ?_
    refine Reg.pures [22] (fuel' := 5) (.inl hb4) rfl (by kernel_rfl) ?_
    refine Reg.known 45 _ (by kernel_rfl) (U_or (w8 (b.data.toList.getD (4 * k) 0) <<< 24 ||| w8 (b.data.toList.getD (4 * k + 1) 0) <<< 16) (w8 (b.data.toList.getD (4 * k + 2) 0) <<< 8)) ?_
    refine Reg.step 27 (by kernel_rfl) (One.ixS (4 * k + 3) (t := 9) (s := b) (kd := IntKind.i64) (i := 4 * (↑k : Int) + 3) (x := b.data.toList.getD (4 * k + 3) 0) (by kernel_rfl) (by kernel_rfl) (by rfl) (hb3) ?_)
    have hb5 := Sat.holds hs1 [0] (B := [cel wb 40 (List.map U ws)]) rfl
    refine ⟨.inl hb5, ?_⟩
    refine Reg.pures [28] (fuel' := 3) (.inl hb5) rfl (by kernel_rfl) ?_
    refine Reg.known 51 _ (by kernel_rfl) (U_of8 (b.data.toList.getD (4 * k + 3) 0)) ?_
    refine Reg.pures [29] (fuel' := 2) (.inl hb5) rfl (by kernel_rfl) ?_
    refine Reg.known 52 _ (by kernel_rfl) (U_or (w8 (b.data.toList.getD (4 * k) 0) <<< 24 ||| w8 (b.data.toList.getD (4 * k + 1) 0) <<< 16 ||| w8 (b.data.toList.getD (4 * k + 2) 0) <<< 8) (w8 (b.data.toList.getD (4 * k + 3) 0))) ?_
    refine Reg.step 30 (by kernel_rfl) (One.ixaA (k) ((k)) (t := 40) (b := wb) (off := 0) (n := 64) (sz := 1) (kd := IntKind.i64) (i := (↑k : Int)) (by kernel_rfl) (by kernel_rfl) (rfl) (by omega) (by omega) ?_)
    have hb6 := Sat.holds hs1 [0] (B := [cel wb 40 (List.map U ws)]) rfl
    refine ⟨.inl hb6, ?_⟩
    refine Reg.step 31 (by kernel_rfl) (One.store 0 (t := 25) (off := k) (v := Value.int IntKind.u32 (↑(w8 (b.data.toList.getD (4 * k) 0) <<< 24 ||| w8 (b.data.toList.getD (4 * k + 1) 0) <<< 16 ||| w8 (b.data.toList.getD (4 * k + 2) 0) <<< 8 ||| w8 (b.data.toList.getD (4 * k + 3) 0)).toNat : Int)) (vs' := List.map U (ws.set k (w8 (b.data.toList.getD (4 * k) 0) <<< 24 ||| w8 (b.data.toList.getD (4 * k + 1) 0) <<< 16 ||| w8 (b.data.toList.getD (4 * k + 2) 0) <<< 8 ||| w8 (b.data.toList.getD (4 * k + 3) 0)))) hs1 rfl (by kernel_rfl) (hS _) (by kernel_rfl) fun w2 hs2 => ?_)
    simp only [List.set_cons_zero, List.set_cons_succ] at hs2
    clear hs1
    refine ⟨(.inr (by kernel_rfl)), ?_⟩
    refine Reg.done (by kernel_rfl) ?_
    refine To.run 4 ?_
    refine To.known 22 (v := .int .i64 (IntKind.i64.wrap ((↑k : Int) + 1))) (.int .i64 ((↑k : Int) + 1)) (by kernel_rfl) (by rw [wrap_i64 (by omega) (by omega)]) ?_
    refine To.run 2 ?_
    refine To.run 1 ?_
    refine To.at (fn := Try.f21) (n := 4) (l := [(1, Value.string b), (3, Value.pointer (some { block := sb, off := 0 })), (5, Value.pointer (some { block := kb, off := 0 })), (6, Value.pointer (some { block := rb, off := 0 })), (7, Value.pointer (some { block := wb, off := 0 })), (8, Value.int IntKind.i64 ((↑k : Int) + 1))]) (by kernel_rfl) fun j => ?_
    exact ih (k + 1) (ws.set k (be b.data.toList k)) _ _ (by omega) (by simp [hl]) hf hs2

theorem RB_ext (E : World) (Q : Ending → World → Prop) (L : List Res) (sb kb wb rb : Nat) (W : List (BitVec 32))
    (fin : ∀ (j : Nat → Value) (w : World), Sat E w (cel wb 40 (W.map U) :: L) → To Try.prog 21 (Cfg.here Try.f21 10 j [(3, .pointer (some ⟨sb, 0, none⟩)), (5, .pointer (some ⟨kb, 0, none⟩)), (6, .pointer (some ⟨rb, 0, none⟩)), (7, .pointer (some ⟨wb, 0, none⟩)), (9, .int .i64 64)]) w Q) :
    ∀ (m k : Nat) (ws : List (BitVec 32)) (j : Nat → Value) (w : World), k + m = 64 → 16 ≤ k → ws.length = 64 → extN ws k m = W → Sat E w (cel wb 40 (ws.map U) :: L) →
    To Try.prog 21 (Cfg.here Try.f21 10 j [(3, .pointer (some ⟨sb, 0, none⟩)), (5, .pointer (some ⟨kb, 0, none⟩)), (6, .pointer (some ⟨rb, 0, none⟩)), (7, .pointer (some ⟨wb, 0, none⟩)), (9, .int .i64 k)]) w Q := by
  intro m
  induction m with
  | zero =>
    intro k ws j w hk hk16 hl he hs
    obtain rfl : k = 64 := by omega
    rw [show ws = W from he] at hs
    exact fin j w hs
  | succ m ih =>
    intro k ws j w hk hk16 hl he hs
    have hk64 : k < 64 := by omega
    have hL1 := uLoad ws (k - 15) (by omega)
    have hL2 := uLoad ws (k - 2) (by omega)
    have hL3 := uLoad ws (k - 7) (by omega)
    have hL4 := uLoad ws (k - 16) (by omega)
    have hS := uStore ws k (by omega)
    have hx : ws.set k (((sig1 (ws.getD (k - 2) 0) + ws.getD (k - 7) 0) + sig0 (ws.getD (k - 15) 0)) + ws.getD (k - 16) 0) = extW ws k := by
      unfold extW
      congr 1
      ac_rfl
    clear fin
    refine To.run 6 ?_
    refine To.isTrue 55 (t := decide ((↑k : Int) < 64)) (by kernel_rfl) (by (simp; omega)) ?_
    refine To.run 5 ?_
    refine To.draw [cel wb 40 (List.map U ws)] [] 18 hs (by kernel_rfl) (by kernel_rfl) (by kernel_rfl) fun w1 hs1 => ?_
    clear hs
    have hb1 := Sat.holds hs1 [0] rfl
    refine Reg.pures [0, 1] (fuel' := 16) (.inl hb1) rfl (by kernel_rfl) ?_
    refine Reg.known 59 (v := .int .i64 (IntKind.i64.wrap ((↑k : Int) - 15))) (.int .i64 ((↑k : Int) - 15)) (by kernel_rfl) (by rw [wrap_i64 (by omega) (by omega)]) ?_
    refine Reg.pures [5, 6] (fuel' := 14) (.inl hb1) rfl (by kernel_rfl) ?_
    refine Reg.known 64 (v := .int .i64 (IntKind.i64.wrap ((↑k : Int) - 15))) (.int .i64 ((↑k : Int) - 15)) (by kernel_rfl) (by rw [wrap_i64 (by omega) (by omega)]) ?_
    refine Reg.pures [11, 12] (fuel' := 12) (.inl hb1) rfl (by kernel_rfl) ?_
    refine Reg.known 70 (v := .int .i64 (IntKind.i64.wrap ((↑k : Int) - 15))) (.int .i64 ((↑k : Int) - 15)) (by kernel_rfl) (by rw [wrap_i64 (by omega) (by omega)]) ?_
    refine Reg.val 2 (.inl hb1) (by kernel_rfl) (by kernel_rfl) (fun w' => Val.ixaA (k - 15) ((k - 15)) (t := 40) (b := wb) (off := 0) (n := 64) (sz := 1) (kd := IntKind.i64) (i := (↑k : Int) - 15) (by kernel_rfl) (by kernel_rfl) (by omega) (by omega) (by omega)) ?_
    refine Reg.load 3 0 (t := 25) (off := k - 15) (v := Value.int IntKind.u32 (↑(ws.getD (k - 15) 0).toNat : Int)) (.inl hb1) rfl (by kernel_rfl) (by kernel_rfl) hL1 ?_
    refine Reg.val 7 (.inl hb1) (by kernel_rfl) (by kernel_rfl) (fun w' => Val.ixaA (k - 15) ((k - 15)) (t := 40) (b := wb) (off := 0) (n := 64) (sz := 1) (kd := IntKind.i64) (i := (↑k : Int) - 15) (by kernel_rfl) (by kernel_rfl) (by omega) (by omega) (by omega)) ?_
    refine Reg.load 8 0 (t := 25) (off := k - 15) (v := Value.int IntKind.u32 (↑(ws.getD (k - 15) 0).toNat : Int)) (.inl hb1) rfl (by kernel_rfl) (by kernel_rfl) hL1 ?_
    refine Reg.val 13 (.inl hb1) (by kernel_rfl) (by kernel_rfl) (fun w' => Val.ixaA (k - 15) ((k - 15)) (t := 40) (b := wb) (off := 0) (n := 64) (sz := 1) (kd := IntKind.i64) (i := (↑k : Int) - 15) (by kernel_rfl) (by kernel_rfl) (by omega) (by omega) (by omega)) ?_
    refine Reg.load 14 0 (t := 25) (off := k - 15) (v := Value.int IntKind.u32 (↑(ws.getD (k - 15) 0).toNat : Int)) (.inl hb1) rfl (by kernel_rfl) (by kernel_rfl) hL1 ?_
    refine Reg.pures [15] (fuel' := 5) (.inl hb1) rfl (by kernel_rfl) ?_
    refine Reg.known 73 _ (by kernel_rfl) (U_shr (ws.getD (k - 15) 0) (3) (3) rfl) ?_
    refine Reg.step 4 (by kernel_rfl) (One.call 1 [] [0] (g := 26) (args := [Value.int IntKind.u32 (↑(ws.getD (k - 15) 0).toNat : Int), Value.int IntKind.i64 7]) (by kernel_rfl) hs1 (turn_7 (ws.getD (k - 15) 0)) (by decide) rfl ?_)
    rintro _ _ w2 ⟨rfl, rfl⟩ hs2
    simp only [pickAll, List.filterMap_cons, List.filterMap_nil, List.getElem?_cons_zero, List.getElem?_cons_succ, List.cons_append, List.nil_append, List.drop_succ_cons, List.drop_zero] at hs2
    clear hs1
    have hb2 := Sat.holds hs2 [0] (B := [cel wb 40 (List.map U ws)]) rfl
    refine ⟨.inl hb2, ?_⟩
    refine Reg.step 9 (by kernel_rfl) (One.call 1 [] [0] (g := 26) (args := [Value.int IntKind.u32 (↑(ws.getD (k - 15) 0).toNat : Int), Value.int IntKind.i64 18]) (by kernel_rfl) hs2 (turn_18 (ws.getD (k - 15) 0)) (by decide) rfl ?_)
    rintro _ _ w3 ⟨rfl, rfl⟩ hs1
    simp only [pickAll, List.filterMap_cons, List.filterMap_nil, List.getElem?_cons_zero, List.getElem?_cons_succ, List.cons_append, List.nil_append, List.drop_succ_cons, List.drop_zero] at hs1
    clear hs2
    have hb3 := Sat.holds hs1 [0] (B := [cel wb 40 (List.map U ws)]) rfl
    refine ⟨.inl hb3, ?_⟩
    refine Reg.pures [10] (fuel' := 2) (.inl hb3) rfl (by kernel_rfl) ?_
    refine Reg.known 68 _ (by kernel_rfl) (U_xor (rr (ws.getD (k - 15) 0) 7) (rr (ws.getD (k - 15) 0) 18)) ?_
    refine Reg.pures [16] (fuel' := 1) (.inl hb3) rfl (by kernel_rfl) ?_
    refine Reg.known 74 _ (by kernel_rfl) (U_xor (rr (ws.getD (k - 15) 0) 7 ^^^ rr (ws.getD (k - 15) 0) 18) (ws.getD (k - 15) 0 >>> 3)) ?_
    refine Reg.pures [17] (fuel' := 0) (.inl hb3) rfl (by kernel_rfl) ?_
    refine Reg.done (by kernel_rfl) ?_
    refine To.run 1 ?_
    refine To.draw [cel wb 40 (List.map U ws)] [] 18 hs1 (by kernel_rfl) (by kernel_rfl) (by kernel_rfl) fun w4 hs2 => ?_
    clear hs1
    have hb4 := Sat.holds hs2 [0] rfl
    refine Reg.pures [0, 1] (fuel' := 16) (.inl hb4) rfl (by kernel_rfl) ?_
    refine Reg.known 76 (v := .int .i64 (IntKind.i64.wrap ((↑k : Int) - 2))) (.int .i64 ((↑k : Int) - 2)) (by kernel_rfl) (by rw [wrap_i64 (by omega) (by omega)]) ?_
    refine Reg.pures [5, 6] (fuel' := 14) (.inl hb4) rfl (by kernel_rfl) ?_
    refine Reg.known 81 (v := .int .i64 (IntKind.i64.wrap ((↑k : Int) - 2))) (.int .i64 ((↑k : Int) - 2)) (by kernel_rfl) (by rw [wrap_i64 (by omega) (by omega)]) ?_
    refine Reg.pures [11, 12] (fuel' := 12) (.inl hb4) rfl (by kernel_rfl) ?_
    refine Reg.known 87 (v := .int .i64 (IntKind.i64.wrap ((↑k : Int) - 2))) (.int .i64 ((↑k : Int) - 2)) (by kernel_rfl) (by rw [wrap_i64 (by omega) (by omega)]) ?_
    refine Reg.val 2 (.inl hb4) (by kernel_rfl) (by kernel_rfl) (fun w' => Val.ixaA (k - 2) ((k - 2)) (t := 40) (b := wb) (off := 0) (n := 64) (sz := 1) (kd := IntKind.i64) (i := (↑k : Int) - 2) (by kernel_rfl) (by kernel_rfl) (by omega) (by omega) (by omega)) ?_
    refine Reg.load 3 0 (t := 25) (off := k - 2) (v := Value.int IntKind.u32 (↑(ws.getD (k - 2) 0).toNat : Int)) (.inl hb4) rfl (by kernel_rfl) (by kernel_rfl) hL2 ?_
    refine Reg.val 7 (.inl hb4) (by kernel_rfl) (by kernel_rfl) (fun w' => Val.ixaA (k - 2) ((k - 2)) (t := 40) (b := wb) (off := 0) (n := 64) (sz := 1) (kd := IntKind.i64) (i := (↑k : Int) - 2) (by kernel_rfl) (by kernel_rfl) (by omega) (by omega) (by omega)) ?_
    refine Reg.load 8 0 (t := 25) (off := k - 2) (v := Value.int IntKind.u32 (↑(ws.getD (k - 2) 0).toNat : Int)) (.inl hb4) rfl (by kernel_rfl) (by kernel_rfl) hL2 ?_
    refine Reg.val 13 (.inl hb4) (by kernel_rfl) (by kernel_rfl) (fun w' => Val.ixaA (k - 2) ((k - 2)) (t := 40) (b := wb) (off := 0) (n := 64) (sz := 1) (kd := IntKind.i64) (i := (↑k : Int) - 2) (by kernel_rfl) (by kernel_rfl) (by omega) (by omega) (by omega)) ?_
    refine Reg.load 14 0 (t := 25) (off := k - 2) (v := Value.int IntKind.u32 (↑(ws.getD (k - 2) 0).toNat : Int)) (.inl hb4) rfl (by kernel_rfl) (by kernel_rfl) hL2 ?_
    refine Reg.pures [15] (fuel' := 5) (.inl hb4) rfl (by kernel_rfl) ?_
    refine Reg.known 90 _ (by kernel_rfl) (U_shr (ws.getD (k - 2) 0) (10) (10) rfl) ?_
    refine Reg.step 4 (by kernel_rfl) (One.call 1 [] [0] (g := 26) (args := [Value.int IntKind.u32 (↑(ws.getD (k - 2) 0).toNat : Int), Value.int IntKind.i64 17]) (by kernel_rfl) hs2 (turn_17 (ws.getD (k - 2) 0)) (by decide) rfl ?_)
    rintro _ _ w5 ⟨rfl, rfl⟩ hs1
    simp only [pickAll, List.filterMap_cons, List.filterMap_nil, List.getElem?_cons_zero, List.getElem?_cons_succ, List.cons_append, List.nil_append, List.drop_succ_cons, List.drop_zero] at hs1
    clear hs2
    have hb5 := Sat.holds hs1 [0] (B := [cel wb 40 (List.map U ws)]) rfl
    refine ⟨.inl hb5, ?_⟩
    refine Reg.step 9 (by kernel_rfl) (One.call 1 [] [0] (g := 26) (args := [Value.int IntKind.u32 (↑(ws.getD (k - 2) 0).toNat : Int), Value.int IntKind.i64 19]) (by kernel_rfl) hs1 (turn_19 (ws.getD (k - 2) 0)) (by decide) rfl ?_)
    rintro _ _ w6 ⟨rfl, rfl⟩ hs2
    simp only [pickAll, List.filterMap_cons, List.filterMap_nil, List.getElem?_cons_zero, List.getElem?_cons_succ, List.cons_append, List.nil_append, List.drop_succ_cons, List.drop_zero] at hs2
    clear hs1
    have hb6 := Sat.holds hs2 [0] (B := [cel wb 40 (List.map U ws)]) rfl
    refine ⟨.inl hb6, ?_⟩
    refine Reg.pures [10] (fuel' := 2) (.inl hb6) rfl (by kernel_rfl) ?_
    refine Reg.known 85 _ (by kernel_rfl) (U_xor (rr (ws.getD (k - 2) 0) 17) (rr (ws.getD (k - 2) 0) 19)) ?_
    refine Reg.pures [16] (fuel' := 1) (.inl hb6) rfl (by kernel_rfl) ?_
    refine Reg.known 91 _ (by kernel_rfl) (U_xor (rr (ws.getD (k - 2) 0) 17 ^^^ rr (ws.getD (k - 2) 0) 19) (ws.getD (k - 2) 0 >>> 10)) ?_
    refine Reg.pures [17] (fuel' := 0) (.inl hb6) rfl (by kernel_rfl) ?_
    refine Reg.done (by kernel_rfl) ?_
    refine To.draw [cel wb 40 (List.map U ws)] [15] 16 hs2 (by kernel_rfl) (by kernel_rfl) (by kernel_rfl) fun w7 hs1 => ?_
    clear hs2
    have hb7 := Sat.holds hs1 [0] rfl
    refine Reg.pures [0, 1, 2, 3] (fuel' := 12) (.inl hb7) rfl (by kernel_rfl) ?_
    refine Reg.known 95 (v := .int .i64 (IntKind.i64.wrap ((↑k : Int) - 7))) (.int .i64 ((↑k : Int) - 7)) (by kernel_rfl) (by rw [wrap_i64 (by omega) (by omega)]) ?_
    refine Reg.pures [7, 9, 10] (fuel' := 9) (.inl hb7) rfl (by kernel_rfl) ?_
    refine Reg.known 102 (v := .int .i64 (IntKind.i64.wrap ((↑k : Int) - 16))) (.int .i64 ((↑k : Int) - 16)) (by kernel_rfl) (by rw [wrap_i64 (by omega) (by omega)]) ?_
    refine Reg.val 4 (.inl hb7) (by kernel_rfl) (by kernel_rfl) (fun w' => Val.ixaA (k - 7) ((k - 7)) (t := 40) (b := wb) (off := 0) (n := 64) (sz := 1) (kd := IntKind.i64) (i := (↑k : Int) - 7) (by kernel_rfl) (by kernel_rfl) (by omega) (by omega) (by omega)) ?_
    refine Reg.load 5 0 (t := 25) (off := k - 7) (v := Value.int IntKind.u32 (↑(ws.getD (k - 7) 0).toNat : Int)) (.inl hb7) rfl (by kernel_rfl) (by kernel_rfl) hL3 ?_
    refine Reg.pures [6] (fuel' := 6) (.inl hb7) rfl (by kernel_rfl) ?_
    refine Reg.known 98 _ (by kernel_rfl) (U_add (rr (ws.getD (k - 2) 0) 17 ^^^ rr (ws.getD (k - 2) 0) 19 ^^^ ws.getD (k - 2) 0 >>> 10) (ws.getD (k - 7) 0)) ?_
    refine Reg.pures [8] (fuel' := 5) (.inl hb7) rfl (by kernel_rfl) ?_
    refine Reg.known 100 _ (by kernel_rfl) (U_add ((rr (ws.getD (k - 2) 0) 17 ^^^ rr (ws.getD (k - 2) 0) 19 ^^^ ws.getD (k - 2) 0 >>> 10) + ws.getD (k - 7) 0) (rr (ws.getD (k - 15) 0) 7 ^^^ rr (ws.getD (k - 15) 0) 18 ^^^ ws.getD (k - 15) 0 >>> 3)) ?_
    refine Reg.step 11 (by kernel_rfl) (One.ixaA (k - 16) ((k - 16)) (t := 40) (b := wb) (off := 0) (n := 64) (sz := 1) (kd := IntKind.i64) (i := (↑k : Int) - 16) (by kernel_rfl) (by kernel_rfl) (by omega) (by omega) (by omega) ?_)
    have hb8 := Sat.holds hs1 [0] (B := [cel wb 40 (List.map U ws)]) rfl
    refine ⟨.inl hb8, ?_⟩
    refine Reg.step 12 (by kernel_rfl) (One.load 0 (t := 25) (off := k - 16) (v := Value.int IntKind.u32 (↑(ws.getD (k - 16) 0).toNat : Int)) hs1 rfl (by kernel_rfl) hL4 ?_)
    have hb9 := Sat.holds hs1 [0] (B := [cel wb 40 (List.map U ws)]) rfl
    refine ⟨.inl hb9, ?_⟩
    refine Reg.pures [13] (fuel' := 2) (.inl hb9) rfl (by kernel_rfl) ?_
    refine Reg.known 105 _ (by kernel_rfl) (U_add ((rr (ws.getD (k - 2) 0) 17 ^^^ rr (ws.getD (k - 2) 0) 19 ^^^ ws.getD (k - 2) 0 >>> 10) + ws.getD (k - 7) 0 + (rr (ws.getD (k - 15) 0) 7 ^^^ rr (ws.getD (k - 15) 0) 18 ^^^ ws.getD (k - 15) 0 >>> 3)) (ws.getD (k - 16) 0)) ?_
    refine Reg.step 14 (by kernel_rfl) (One.ixaA (k) ((k)) (t := 40) (b := wb) (off := 0) (n := 64) (sz := 1) (kd := IntKind.i64) (i := (↑k : Int)) (by kernel_rfl) (by kernel_rfl) (rfl) (by omega) (by omega) ?_)
    have hb10 := Sat.holds hs1 [0] (B := [cel wb 40 (List.map U ws)]) rfl
    refine ⟨.inl hb10, ?_⟩
    refine Reg.step 15 (by kernel_rfl) (One.store 0 (t := 25) (off := k) (v := Value.int IntKind.u32 (↑((rr (ws.getD (k - 2) 0) 17 ^^^ rr (ws.getD (k - 2) 0) 19 ^^^ ws.getD (k - 2) 0 >>> 10) + ws.getD (k - 7) 0 + (rr (ws.getD (k - 15) 0) 7 ^^^ rr (ws.getD (k - 15) 0) 18 ^^^ ws.getD (k - 15) 0 >>> 3) + ws.getD (k - 16) 0).toNat : Int)) (vs' := List.map U (ws.set k ((rr (ws.getD (k - 2) 0) 17 ^^^ rr (ws.getD (k - 2) 0) 19 ^^^ ws.getD (k - 2) 0 >>> 10) + ws.getD (k - 7) 0 + (rr (ws.getD (k - 15) 0) 7 ^^^ rr (ws.getD (k - 15) 0) 18 ^^^ ws.getD (k - 15) 0 >>> 3) + ws.getD (k - 16) 0))) hs1 rfl (by kernel_rfl) (hS _) (by kernel_rfl) fun w8 hs2 => ?_)
    simp only [List.set_cons_zero, List.set_cons_succ] at hs2
    clear hs1
    refine ⟨(.inr (by kernel_rfl)), ?_⟩
    refine Reg.done (by kernel_rfl) ?_
    refine To.run 4 ?_
    refine To.known 57 (v := .int .i64 (IntKind.i64.wrap ((↑k : Int) + 1))) (.int .i64 ((↑k : Int) + 1)) (by kernel_rfl) (by rw [wrap_i64 (by omega) (by omega)]) ?_
    refine To.run 2 ?_
    refine To.run 1 ?_
    refine To.at (fn := Try.f21) (n := 10) (l := [(3, Value.pointer (some { block := sb, off := 0 })), (5, Value.pointer (some { block := kb, off := 0 })), (6, Value.pointer (some { block := rb, off := 0 })), (7, Value.pointer (some { block := wb, off := 0 })), (9, Value.int IntKind.i64 ((↑k : Int) + 1))]) (by kernel_rfl) fun j => ?_
    exact ih (k + 1) (extW ws k) _ _ (by omega) (by omega) (by simp [extW, hl]) he (hx ▸ hs2)

theorem RB_rounds (E : World) (Q : Ending → World → Prop) (L : List Res) (sb kb wb rb vb : Nat) (K W : List (BitVec 32)) (hK : K.length = 64) (hW : W.length = 64) (z : St8)
    (fin : ∀ (j : Nat → Value) (w : World), Sat E w (cel vb 26 (z.list.map U) :: cel wb 40 (W.map U) :: cel kb 40 (K.map U) :: L) →
      To Try.prog 21 (Cfg.here Try.f21 19 j [(3, .pointer (some ⟨sb, 0, none⟩)), (6, .pointer (some ⟨rb, 0, none⟩)), (12, .pointer (some ⟨vb, 0, none⟩)), (13, .int .i64 64)]) w Q) :
    ∀ (m k : Nat) (s : St8) (j : Nat → Value) (w : World), k + m = 64 → rounds K W s k m = z → Sat E w (cel vb 26 (s.list.map U) :: cel wb 40 (W.map U) :: cel kb 40 (K.map U) :: L) →
    To Try.prog 21 (Cfg.here Try.f21 19 j [(3, .pointer (some ⟨sb, 0, none⟩)), (5, .pointer (some ⟨kb, 0, none⟩)), (6, .pointer (some ⟨rb, 0, none⟩)), (7, .pointer (some ⟨wb, 0, none⟩)), (12, .pointer (some ⟨vb, 0, none⟩)), (13, .int .i64 k)]) w Q := by
  intro m
  induction m with
  | zero =>
    intro k s j w hk he hs
    obtain rfl : k = 64 := by omega
    rw [show s = z from he] at hs
    refine To.at (fn := Try.f21) (n := 19) (l := [(3, Value.pointer (some { block := sb, off := 0 })), (6, Value.pointer (some { block := rb, off := 0 })), (12, Value.pointer (some { block := vb, off := 0 })), (13, Value.int IntKind.i64 64)]) (by kernel_rfl) fun j => ?_
    exact fin j w hs
  | succ m ih =>
    intro k s j w hk he hs
    have hk64 : k < 64 := by omega
    have hL1 := uLoad W k (by omega)
    have hL2 := uLoad K k (by omega)
    unfold St8.list at hs
    simp only [List.map_cons, List.map_nil] at hs
    clear fin
    refine To.run 6 ?_
    refine To.isTrue 109 (t := decide ((↑k : Int) < 64)) (by kernel_rfl) (by (simp; omega)) ?_
    refine To.run 5 ?_
    refine To.draw [cel vb 26 [U s.a, U s.b, U s.c, U s.d, U s.e, U s.f, U s.g, U s.h], cel wb 40 (List.map U W), cel kb 40 (List.map U K)] [] 12 hs (by kernel_rfl) (by kernel_rfl) (by kernel_rfl) fun w1 hs1 => ?_
    clear hs
    have hb1 := Sat.holds hs1 [0, 1, 2] rfl
    refine Reg.pures [0, 3, 7] (fuel' := 9) (.inl hb1) rfl (by kernel_rfl) ?_
    refine Reg.load 1 0 (t := 25) (off := 4) (v := Value.int IntKind.u32 (↑s.e.toNat : Int)) (.inl hb1) rfl (by kernel_rfl) (by kernel_rfl) (by kernel_rfl) ?_
    refine Reg.load 4 0 (t := 25) (off := 4) (v := Value.int IntKind.u32 (↑s.e.toNat : Int)) (.inl hb1) rfl (by kernel_rfl) (by kernel_rfl) (by kernel_rfl) ?_
    refine Reg.load 8 0 (t := 25) (off := 4) (v := Value.int IntKind.u32 (↑s.e.toNat : Int)) (.inl hb1) rfl (by kernel_rfl) (by kernel_rfl) (by kernel_rfl) ?_
    refine Reg.step 2 (by kernel_rfl) (One.call 3 [] [0, 1, 2] (g := 26) (args := [Value.int IntKind.u32 (↑s.e.toNat : Int), Value.int IntKind.i64 6]) (by kernel_rfl) hs1 (turn_6 (s.e)) (by decide) rfl ?_)
    rintro _ _ w2 ⟨rfl, rfl⟩ hs2
    simp only [pickAll, List.filterMap_cons, List.filterMap_nil, List.getElem?_cons_zero, List.getElem?_cons_succ, List.cons_append, List.nil_append, List.drop_succ_cons, List.drop_zero] at hs2
    clear hs1
    have hb2 := Sat.holds hs2 [0, 1, 2] (B := [cel vb 26 [U s.a, U s.b, U s.c, U s.d, U s.e, U s.f, U s.g, U s.h], cel wb 40 (List.map U W), cel kb 40 (List.map U K)]) rfl
    refine ⟨.inl hb2, ?_⟩
    refine Reg.step 5 (by kernel_rfl) (One.call 3 [] [0, 1, 2] (g := 26) (args := [Value.int IntKind.u32 (↑s.e.toNat : Int), Value.int IntKind.i64 11]) (by kernel_rfl) hs2 (turn_11 (s.e)) (by decide) rfl ?_)
    rintro _ _ w3 ⟨rfl, rfl⟩ hs1
    simp only [pickAll, List.filterMap_cons, List.filterMap_nil, List.getElem?_cons_zero, List.getElem?_cons_succ, List.cons_append, List.nil_append, List.drop_succ_cons, List.drop_zero] at hs1
    clear hs2
    have hb3 := Sat.holds hs1 [0, 1, 2] (B := [cel vb 26 [U s.a, U s.b, U s.c, U s.d, U s.e, U s.f, U s.g, U s.h], cel wb 40 (List.map U W), cel kb 40 (List.map U K)]) rfl
    refine ⟨.inl hb3, ?_⟩
    refine Reg.pures [6] (fuel' := 3) (.inl hb3) rfl (by kernel_rfl) ?_
    refine Reg.known 118 _ (by kernel_rfl) (U_xor (rr s.e 6) (rr s.e 11)) ?_
    refine Reg.step 9 (by kernel_rfl) (One.call 3 [] [0, 1, 2] (g := 26) (args := [Value.int IntKind.u32 (↑s.e.toNat : Int), Value.int IntKind.i64 25]) (by kernel_rfl) hs1 (turn_25 (s.e)) (by decide) rfl ?_)
    rintro _ _ w4 ⟨rfl, rfl⟩ hs2
    simp only [pickAll, List.filterMap_cons, List.filterMap_nil, List.getElem?_cons_zero, List.getElem?_cons_succ, List.cons_append, List.nil_append, List.drop_succ_cons, List.drop_zero] at hs2
    clear hs1
    have hb4 := Sat.holds hs2 [0, 1, 2] (B := [cel vb 26 [U s.a, U s.b, U s.c, U s.d, U s.e, U s.f, U s.g, U s.h], cel wb 40 (List.map U W), cel kb 40 (List.map U K)]) rfl
    refine ⟨.inl hb4, ?_⟩
    refine Reg.pures [10] (fuel' := 1) (.inl hb4) rfl (by kernel_rfl) ?_
    refine Reg.known 122 _ (by kernel_rfl) (U_xor (rr s.e 6 ^^^ rr s.e 11) (rr s.e 25)) ?_
    refine Reg.pures [11] (fuel' := 0) (.inl hb4) rfl (by kernel_rfl) ?_
    refine Reg.done (by kernel_rfl) ?_
    refine To.run 1 ?_
    refine To.draw [cel vb 26 [U s.a, U s.b, U s.c, U s.d, U s.e, U s.f, U s.g, U s.h], cel wb 40 (List.map U W), cel kb 40 (List.map U K)] [] 26 hs2 (by kernel_rfl) (by kernel_rfl) (by kernel_rfl) fun w5 hs1 => ?_
    clear hs2
    have hb5 := Sat.holds hs1 [0, 1, 2] rfl
    refine Reg.pures [0, 2, 4, 6, 9, 12, 17, 21] (fuel' := 18) (.inl hb5) rfl (by kernel_rfl) ?_
    refine Reg.load 1 0 (t := 25) (off := 7) (v := Value.int IntKind.u32 (↑s.h.toNat : Int)) (.inl hb5) rfl (by kernel_rfl) (by kernel_rfl) (by kernel_rfl) ?_
    refine Reg.pures [3] (fuel' := 16) (.inl hb5) rfl (by kernel_rfl) ?_
    refine Reg.known 126 _ (by kernel_rfl) (U_add (s.h) (rr s.e 6 ^^^ rr s.e 11 ^^^ rr s.e 25)) ?_
    refine Reg.load 5 0 (t := 25) (off := 4) (v := Value.int IntKind.u32 (↑s.e.toNat : Int)) (.inl hb5) rfl (by kernel_rfl) (by kernel_rfl) (by kernel_rfl) ?_
    refine Reg.load 7 0 (t := 25) (off := 5) (v := Value.int IntKind.u32 (↑s.f.toNat : Int)) (.inl hb5) rfl (by kernel_rfl) (by kernel_rfl) (by kernel_rfl) ?_
    refine Reg.pures [8] (fuel' := 13) (.inl hb5) rfl (by kernel_rfl) ?_
    refine Reg.known 131 _ (by kernel_rfl) (U_and (s.e) (s.f)) ?_
    refine Reg.load 10 0 (t := 25) (off := 4) (v := Value.int IntKind.u32 (↑s.e.toNat : Int)) (.inl hb5) rfl (by kernel_rfl) (by kernel_rfl) (by kernel_rfl) ?_
    refine Reg.pures [11] (fuel' := 11) (.inl hb5) rfl (by kernel_rfl) ?_
    refine Reg.known 134 _ (by kernel_rfl) (U_not (s.e)) ?_
    refine Reg.load 13 0 (t := 25) (off := 6) (v := Value.int IntKind.u32 (↑s.g.toNat : Int)) (.inl hb5) rfl (by kernel_rfl) (by kernel_rfl) (by kernel_rfl) ?_
    refine Reg.pures [14] (fuel' := 9) (.inl hb5) rfl (by kernel_rfl) ?_
    refine Reg.known 137 _ (by kernel_rfl) (U_and (~~~s.e) (s.g)) ?_
    refine Reg.pures [15] (fuel' := 8) (.inl hb5) rfl (by kernel_rfl) ?_
    refine Reg.known 138 _ (by kernel_rfl) (U_xor (s.e &&& s.f) (~~~s.e &&& s.g)) ?_
    refine Reg.pures [16] (fuel' := 7) (.inl hb5) rfl (by kernel_rfl) ?_
    refine Reg.known 139 _ (by kernel_rfl) (U_add (s.h + (rr s.e 6 ^^^ rr s.e 11 ^^^ rr s.e 25)) (s.e &&& s.f ^^^ ~~~s.e &&& s.g)) ?_
    refine Reg.val 18 (.inl hb5) (by kernel_rfl) (by kernel_rfl) (fun w' => Val.ixaA (k) ((k)) (t := 40) (b := kb) (off := 0) (n := 64) (sz := 1) (kd := IntKind.i64) (i := (↑k : Int)) (by kernel_rfl) (by kernel_rfl) (rfl) (by omega) (by omega)) ?_
    refine Reg.load 19 2 (t := 25) (off := k) (v := Value.int IntKind.u32 (↑(K.getD k 0).toNat : Int)) (.inl hb5) rfl (by kernel_rfl) (by kernel_rfl) hL2 ?_
    refine Reg.pures [20] (fuel' := 4) (.inl hb5) rfl (by kernel_rfl) ?_
    refine Reg.known 143 _ (by kernel_rfl) (U_add (s.h + (rr s.e 6 ^^^ rr s.e 11 ^^^ rr s.e 25) + (s.e &&& s.f ^^^ ~~~s.e &&& s.g)) (K.getD k 0)) ?_
    refine Reg.step 22 (by kernel_rfl) (One.ixaA (k) ((k)) (t := 40) (b := wb) (off := 0) (n := 64) (sz := 1) (kd := IntKind.i64) (i := (↑k : Int)) (by kernel_rfl) (by kernel_rfl) (rfl) (by omega) (by omega) ?_)
    have hb6 := Sat.holds hs1 [0, 1, 2] (B := [cel vb 26 [U s.a, U s.b, U s.c, U s.d, U s.e, U s.f, U s.g, U s.h], cel wb 40 (List.map U W), cel kb 40 (List.map U K)]) rfl
    refine ⟨.inl hb6, ?_⟩
    refine Reg.step 23 (by kernel_rfl) (One.load 1 (t := 25) (off := k) (v := Value.int IntKind.u32 (↑(W.getD k 0).toNat : Int)) hs1 rfl (by kernel_rfl) hL1 ?_)
    have hb7 := Sat.holds hs1 [0, 1, 2] (B := [cel vb 26 [U s.a, U s.b, U s.c, U s.d, U s.e, U s.f, U s.g, U s.h], cel wb 40 (List.map U W), cel kb 40 (List.map U K)]) rfl
    refine ⟨.inl hb7, ?_⟩
    refine Reg.pures [24] (fuel' := 1) (.inl hb7) rfl (by kernel_rfl) ?_
    refine Reg.known 147 _ (by kernel_rfl) (U_add (s.h + (rr s.e 6 ^^^ rr s.e 11 ^^^ rr s.e 25) + (s.e &&& s.f ^^^ ~~~s.e &&& s.g) + K.getD k 0) (W.getD k 0)) ?_
    refine Reg.pures [25] (fuel' := 0) (.inl hb7) rfl (by kernel_rfl) ?_
    refine Reg.done (by kernel_rfl) ?_
    refine To.run 1 ?_
    refine To.draw [cel vb 26 [U s.a, U s.b, U s.c, U s.d, U s.e, U s.f, U s.g, U s.h], cel wb 40 (List.map U W), cel kb 40 (List.map U K)] [] 12 hs1 (by kernel_rfl) (by kernel_rfl) (by kernel_rfl) fun w6 hs2 => ?_
    clear hs1
    have hb8 := Sat.holds hs2 [0, 1, 2] rfl
    refine Reg.pures [0, 3, 7] (fuel' := 9) (.inl hb8) rfl (by kernel_rfl) ?_
    refine Reg.load 1 0 (t := 25) (off := 0) (v := Value.int IntKind.u32 (↑s.a.toNat : Int)) (.inl hb8) rfl (by kernel_rfl) (by kernel_rfl) (by kernel_rfl) ?_
    refine Reg.load 4 0 (t := 25) (off := 0) (v := Value.int IntKind.u32 (↑s.a.toNat : Int)) (.inl hb8) rfl (by kernel_rfl) (by kernel_rfl) (by kernel_rfl) ?_
    refine Reg.load 8 0 (t := 25) (off := 0) (v := Value.int IntKind.u32 (↑s.a.toNat : Int)) (.inl hb8) rfl (by kernel_rfl) (by kernel_rfl) (by kernel_rfl) ?_
    refine Reg.step 2 (by kernel_rfl) (One.call 3 [] [0, 1, 2] (g := 26) (args := [Value.int IntKind.u32 (↑s.a.toNat : Int), Value.int IntKind.i64 2]) (by kernel_rfl) hs2 (turn_2 (s.a)) (by decide) rfl ?_)
    rintro _ _ w7 ⟨rfl, rfl⟩ hs1
    simp only [pickAll, List.filterMap_cons, List.filterMap_nil, List.getElem?_cons_zero, List.getElem?_cons_succ, List.cons_append, List.nil_append, List.drop_succ_cons, List.drop_zero] at hs1
    clear hs2
    have hb9 := Sat.holds hs1 [0, 1, 2] (B := [cel vb 26 [U s.a, U s.b, U s.c, U s.d, U s.e, U s.f, U s.g, U s.h], cel wb 40 (List.map U W), cel kb 40 (List.map U K)]) rfl
    refine ⟨.inl hb9, ?_⟩
    refine Reg.step 5 (by kernel_rfl) (One.call 3 [] [0, 1, 2] (g := 26) (args := [Value.int IntKind.u32 (↑s.a.toNat : Int), Value.int IntKind.i64 13]) (by kernel_rfl) hs1 (turn_13 (s.a)) (by decide) rfl ?_)
    rintro _ _ w8 ⟨rfl, rfl⟩ hs2
    simp only [pickAll, List.filterMap_cons, List.filterMap_nil, List.getElem?_cons_zero, List.getElem?_cons_succ, List.cons_append, List.nil_append, List.drop_succ_cons, List.drop_zero] at hs2
    clear hs1
    have hb10 := Sat.holds hs2 [0, 1, 2] (B := [cel vb 26 [U s.a, U s.b, U s.c, U s.d, U s.e, U s.f, U s.g, U s.h], cel wb 40 (List.map U W), cel kb 40 (List.map U K)]) rfl
    refine ⟨.inl hb10, ?_⟩
    refine Reg.pures [6] (fuel' := 3) (.inl hb10) rfl (by kernel_rfl) ?_
    refine Reg.known 154 _ (by kernel_rfl) (U_xor (rr s.a 2) (rr s.a 13)) ?_
    refine Reg.step 9 (by kernel_rfl) (One.call 3 [] [0, 1, 2] (g := 26) (args := [Value.int IntKind.u32 (↑s.a.toNat : Int), Value.int IntKind.i64 22]) (by kernel_rfl) hs2 (turn_22 (s.a)) (by decide) rfl ?_)
    rintro _ _ w9 ⟨rfl, rfl⟩ hs1
    simp only [pickAll, List.filterMap_cons, List.filterMap_nil, List.getElem?_cons_zero, List.getElem?_cons_succ, List.cons_append, List.nil_append, List.drop_succ_cons, List.drop_zero] at hs1
    clear hs2
    have hb11 := Sat.holds hs1 [0, 1, 2] (B := [cel vb 26 [U s.a, U s.b, U s.c, U s.d, U s.e, U s.f, U s.g, U s.h], cel wb 40 (List.map U W), cel kb 40 (List.map U K)]) rfl
    refine ⟨.inl hb11, ?_⟩
    refine Reg.pures [10] (fuel' := 1) (.inl hb11) rfl (by kernel_rfl) ?_
    refine Reg.known 158 _ (by kernel_rfl) (U_xor (rr s.a 2 ^^^ rr s.a 13) (rr s.a 22)) ?_
    refine Reg.pures [11] (fuel' := 0) (.inl hb11) rfl (by kernel_rfl) ?_
    refine Reg.done (by kernel_rfl) ?_
    refine To.run 4 ?_
    refine To.one (One.load 0 (t := 25) (off := 0) (v := Value.int IntKind.u32 (↑s.a.toNat : Int)) hs1 rfl (by kernel_rfl) (by kernel_rfl) ?_)
    refine To.run 1 ?_
    refine To.one (One.load 0 (t := 25) (off := 1) (v := Value.int IntKind.u32 (↑s.b.toNat : Int)) hs1 rfl (by kernel_rfl) (by kernel_rfl) ?_)
    refine To.run 1 ?_
    refine To.known 164 _ (by kernel_rfl) (U_and (s.a) (s.b)) ?_
    refine To.run 1 ?_
    refine To.one (One.load 0 (t := 25) (off := 0) (v := Value.int IntKind.u32 (↑s.a.toNat : Int)) hs1 rfl (by kernel_rfl) (by kernel_rfl) ?_)
    refine To.run 1 ?_
    refine To.one (One.load 0 (t := 25) (off := 2) (v := Value.int IntKind.u32 (↑s.c.toNat : Int)) hs1 rfl (by kernel_rfl) (by kernel_rfl) ?_)
    refine To.run 1 ?_
    refine To.known 169 _ (by kernel_rfl) (U_and (s.a) (s.c)) ?_
    refine To.run 1 ?_
    refine To.known 170 _ (by kernel_rfl) (U_xor (s.a &&& s.b) (s.a &&& s.c)) ?_
    refine To.run 1 ?_
    refine To.one (One.load 0 (t := 25) (off := 1) (v := Value.int IntKind.u32 (↑s.b.toNat : Int)) hs1 rfl (by kernel_rfl) (by kernel_rfl) ?_)
    refine To.run 1 ?_
    refine To.one (One.load 0 (t := 25) (off := 2) (v := Value.int IntKind.u32 (↑s.c.toNat : Int)) hs1 rfl (by kernel_rfl) (by kernel_rfl) ?_)
    refine To.run 1 ?_
    refine To.known 175 _ (by kernel_rfl) (U_and (s.b) (s.c)) ?_
    refine To.run 1 ?_
    refine To.known 176 _ (by kernel_rfl) (U_xor (s.a &&& s.b ^^^ s.a &&& s.c) (s.b &&& s.c)) ?_
    refine To.run 1 ?_
    refine To.known 177 _ (by kernel_rfl) (U_add (rr s.a 2 ^^^ rr s.a 13 ^^^ rr s.a 22) (s.a &&& s.b ^^^ s.a &&& s.c ^^^ s.b &&& s.c)) ?_
    refine To.run 6 ?_
    refine To.known 180 _ (by kernel_rfl) (U_add (s.h + (rr s.e 6 ^^^ rr s.e 11 ^^^ rr s.e 25) + (s.e &&& s.f ^^^ ~~~s.e &&& s.g) + K.getD k 0 + W.getD k 0) ((rr s.a 2 ^^^ rr s.a 13 ^^^ rr s.a 22) + (s.a &&& s.b ^^^ s.a &&& s.c ^^^ s.b &&& s.c))) ?_
    refine To.run 1 ?_
    refine To.one (One.load 0 (t := 25) (off := 0) (v := Value.int IntKind.u32 (↑s.a.toNat : Int)) hs1 rfl (by kernel_rfl) (by kernel_rfl) ?_)
    refine To.run 1 ?_
    refine To.one (One.load 0 (t := 25) (off := 1) (v := Value.int IntKind.u32 (↑s.b.toNat : Int)) hs1 rfl (by kernel_rfl) (by kernel_rfl) ?_)
    refine To.run 1 ?_
    refine To.one (One.load 0 (t := 25) (off := 2) (v := Value.int IntKind.u32 (↑s.c.toNat : Int)) hs1 rfl (by kernel_rfl) (by kernel_rfl) ?_)
    refine To.run 1 ?_
    refine To.one (One.load 0 (t := 25) (off := 3) (v := Value.int IntKind.u32 (↑s.d.toNat : Int)) hs1 rfl (by kernel_rfl) (by kernel_rfl) ?_)
    refine To.run 2 ?_
    refine To.known 190 _ (by kernel_rfl) (U_add (s.d) (s.h + (rr s.e 6 ^^^ rr s.e 11 ^^^ rr s.e 25) + (s.e &&& s.f ^^^ ~~~s.e &&& s.g) + K.getD k 0 + W.getD k 0)) ?_
    refine To.run 1 ?_
    refine To.one (One.load 0 (t := 25) (off := 4) (v := Value.int IntKind.u32 (↑s.e.toNat : Int)) hs1 rfl (by kernel_rfl) (by kernel_rfl) ?_)
    refine To.run 1 ?_
    refine To.one (One.load 0 (t := 25) (off := 5) (v := Value.int IntKind.u32 (↑s.f.toNat : Int)) hs1 rfl (by kernel_rfl) (by kernel_rfl) ?_)
    refine To.run 1 ?_
    refine To.one (One.load 0 (t := 25) (off := 6) (v := Value.int IntKind.u32 (↑s.g.toNat : Int)) hs1 rfl (by kernel_rfl) (by kernel_rfl) ?_)
    refine To.run 1 ?_
    refine To.one (One.store 0 (t := 26) (off := 0) (v := Value.agg #[Value.int IntKind.u32 (↑(s.h + (rr s.e 6 ^^^ rr s.e 11 ^^^ rr s.e 25) + (s.e &&& s.f ^^^ ~~~s.e &&& s.g) + K.getD k 0 + W.getD k 0 + ((rr s.a 2 ^^^ rr s.a 13 ^^^ rr s.a 22) + (s.a &&& s.b ^^^ s.a &&& s.c ^^^ s.b &&& s.c))).toNat : Int), Value.int IntKind.u32 (↑s.a.toNat : Int), Value.int IntKind.u32 (↑s.b.toNat : Int), Value.int IntKind.u32 (↑s.c.toNat : Int), Value.int IntKind.u32 (↑(s.d + (s.h + (rr s.e 6 ^^^ rr s.e 11 ^^^ rr s.e 25) + (s.e &&& s.f ^^^ ~~~s.e &&& s.g) + K.getD k 0 + W.getD k 0)).toNat : Int), Value.int IntKind.u32 (↑s.e.toNat : Int), Value.int IntKind.u32 (↑s.f.toNat : Int), Value.int IntKind.u32 (↑s.g.toNat : Int)]) (vs' := [Value.int IntKind.u32 (↑(s.h + (rr s.e 6 ^^^ rr s.e 11 ^^^ rr s.e 25) + (s.e &&& s.f ^^^ ~~~s.e &&& s.g) + K.getD k 0 + W.getD k 0 + ((rr s.a 2 ^^^ rr s.a 13 ^^^ rr s.a 22) + (s.a &&& s.b ^^^ s.a &&& s.c ^^^ s.b &&& s.c))).toNat : Int), Value.int IntKind.u32 (↑s.a.toNat : Int), Value.int IntKind.u32 (↑s.b.toNat : Int), Value.int IntKind.u32 (↑s.c.toNat : Int), Value.int IntKind.u32 (↑(s.d + (s.h + (rr s.e 6 ^^^ rr s.e 11 ^^^ rr s.e 25) + (s.e &&& s.f ^^^ ~~~s.e &&& s.g) + K.getD k 0 + W.getD k 0)).toNat : Int), Value.int IntKind.u32 (↑s.e.toNat : Int), Value.int IntKind.u32 (↑s.f.toNat : Int), Value.int IntKind.u32 (↑s.g.toNat : Int)]) hs1 rfl (by kernel_rfl) (by kernel_rfl) (by kernel_rfl) fun w10 hs2 => ?_)
    simp only [List.set_cons_zero, List.set_cons_succ] at hs2
    clear hs1
    refine To.run 5 ?_
    refine To.known 111 (v := .int .i64 (IntKind.i64.wrap ((↑k : Int) + 1))) (.int .i64 ((↑k : Int) + 1)) (by kernel_rfl) (by rw [wrap_i64 (by omega) (by omega)]) ?_
    refine To.run 2 ?_
    refine To.run 1 ?_
    refine To.at (fn := Try.f21) (n := 19) (l := [(3, Value.pointer (some { block := sb, off := 0 })), (5, Value.pointer (some { block := kb, off := 0 })), (6, Value.pointer (some { block := rb, off := 0 })), (7, Value.pointer (some { block := wb, off := 0 })), (12, Value.pointer (some { block := vb, off := 0 })), (13, Value.int IntKind.i64 ((↑k : Int) + 1))]) (by kernel_rfl) fun j => ?_
    exact ih (k + 1) (rnd s (K.getD k 0) (W.getD k 0)) _ _ (by omega) he hs2
theorem RB_last (E : World) (L : List Res) (sb rb vb : Nat) (s z : St8) (j : Nat → Value) (w : World)
    (hs : Sat E w (cel vb 26 (z.list.map U) :: cel sb 26 (s.list.map U) :: cel rb 26 ((List.replicate 8 (0 : BitVec 32)).map U) :: L)) :
      To Try.prog 21 (Cfg.here Try.f21 19 j [(3, .pointer (some ⟨sb, 0, none⟩)), (6, .pointer (some ⟨rb, 0, none⟩)), (12, .pointer (some ⟨vb, 0, none⟩)), (13, .int .i64 64)]) w
        (Fins E L (fun v l => v = aggU (s.add z).list ∧ l = [])) := by
  unfold St8.list at hs
  simp only [List.map_cons, List.map_nil] at hs
  have e1 : (s.add z) = z.add s := by
    unfold St8.add
    simp only [St8.mk.injEq]
    refine ⟨?_, ?_, ?_, ?_, ?_, ?_, ?_, ?_⟩ <;> exact BitVec.add_comm _ _
  rw [e1]
  refine To.run 14 ?_
  refine To.run 1 ?_
  refine To.at (fn := Try.f21) (n := 29) (l := [(3, Value.pointer (some { block := sb, off := 0 })), (6, Value.pointer (some { block := rb, off := 0 })), (12, Value.pointer (some { block := vb, off := 0 })), (18, Value.int IntKind.i64 0)]) (by kernel_rfl) fun j => ?_
  refine To.run 10 ?_
  refine To.draw [cel vb 26 [U z.a, U z.b, U z.c, U z.d, U z.e, U z.f, U z.g, U z.h], cel sb 26 [U s.a, U s.b, U s.c, U s.d, U s.e, U s.f, U s.g, U s.h], cel rb 26 (List.map U (List.replicate 8 0))] [9] 10 hs (by kernel_rfl) (by kernel_rfl) (by kernel_rfl) fun w1 hs1 => ?_
  clear hs
  have hb1 := Sat.holds hs1 [0, 1, 2] rfl
  refine Reg.pures [0, 1, 2, 4, 5] (fuel' := 5) (.inl hb1) rfl (by kernel_rfl) ?_
  refine Reg.load 3 0 (t := 25) (off := 0) (v := Value.int IntKind.u32 (↑z.a.toNat : Int)) (.inl hb1) rfl (by kernel_rfl) (by kernel_rfl) (by kernel_rfl) ?_
  refine Reg.step 6 (by kernel_rfl) (One.load 1 (t := 25) (off := 0) (v := Value.int IntKind.u32 (↑s.a.toNat : Int)) hs1 rfl (by kernel_rfl) (by kernel_rfl) ?_)
  have hb2 := Sat.holds hs1 [0, 1, 2] (B := [cel vb 26 [U z.a, U z.b, U z.c, U z.d, U z.e, U z.f, U z.g, U z.h], cel sb 26 [U s.a, U s.b, U s.c, U s.d, U s.e, U s.f, U s.g, U s.h], cel rb 26 (List.map U (List.replicate 8 0))]) rfl
  refine ⟨.inl hb2, ?_⟩
  refine Reg.pures [7] (fuel' := 2) (.inl hb2) rfl (by kernel_rfl) ?_
  refine Reg.known 209 _ (by kernel_rfl) (U_add (z.a) (s.a)) ?_
  refine Reg.pures [8] (fuel' := 1) (.inl hb2) rfl (by kernel_rfl) ?_
  refine Reg.step 9 (by kernel_rfl) (One.store 0 (t := 25) (off := 0) (v := Value.int IntKind.u32 (↑(z.a + s.a).toNat : Int)) (vs' := [Value.int IntKind.u32 (↑(z.a + s.a).toNat : Int), Value.int IntKind.u32 (↑z.b.toNat : Int), Value.int IntKind.u32 (↑z.c.toNat : Int), Value.int IntKind.u32 (↑z.d.toNat : Int), Value.int IntKind.u32 (↑z.e.toNat : Int), Value.int IntKind.u32 (↑z.f.toNat : Int), Value.int IntKind.u32 (↑z.g.toNat : Int), Value.int IntKind.u32 (↑z.h.toNat : Int)]) hs1 rfl (by kernel_rfl) (by kernel_rfl) (by kernel_rfl) fun w2 hs2 => ?_)
  simp only [List.set_cons_zero, List.set_cons_succ] at hs2
  clear hs1
  refine ⟨(.inr (by kernel_rfl)), ?_⟩
  refine Reg.done (by kernel_rfl) ?_
  refine To.run 6 ?_
  refine To.run 1 ?_
  refine To.at (fn := Try.f21) (n := 29) (l := [(3, Value.pointer (some { block := sb, off := 0 })), (6, Value.pointer (some { block := rb, off := 0 })), (12, Value.pointer (some { block := vb, off := 0 })), (18, Value.int IntKind.i64 1)]) (by kernel_rfl) fun j => ?_
  refine To.run 10 ?_
  refine To.draw [cel vb 26 [Value.int IntKind.u32 (↑(z.a + s.a).toNat : Int), Value.int IntKind.u32 (↑z.b.toNat : Int), Value.int IntKind.u32 (↑z.c.toNat : Int), Value.int IntKind.u32 (↑z.d.toNat : Int), Value.int IntKind.u32 (↑z.e.toNat : Int), Value.int IntKind.u32 (↑z.f.toNat : Int), Value.int IntKind.u32 (↑z.g.toNat : Int), Value.int IntKind.u32 (↑z.h.toNat : Int)], cel sb 26 [U s.a, U s.b, U s.c, U s.d, U s.e, U s.f, U s.g, U s.h], cel rb 26 (List.map U (List.replicate 8 0))] [9] 10 hs2 (by kernel_rfl) (by kernel_rfl) (by kernel_rfl) fun w3 hs1 => ?_
  clear hs2
  have hb3 := Sat.holds hs1 [0, 1, 2] rfl
  refine Reg.pures [0, 1, 2, 4, 5] (fuel' := 5) (.inl hb3) rfl (by kernel_rfl) ?_
  refine Reg.load 3 0 (t := 25) (off := 1) (v := Value.int IntKind.u32 (↑z.b.toNat : Int)) (.inl hb3) rfl (by kernel_rfl) (by kernel_rfl) (by kernel_rfl) ?_
  refine Reg.step 6 (by kernel_rfl) (One.load 1 (t := 25) (off := 1) (v := Value.int IntKind.u32 (↑s.b.toNat : Int)) hs1 rfl (by kernel_rfl) (by kernel_rfl) ?_)
  have hb4 := Sat.holds hs1 [0, 1, 2] (B := [cel vb 26 [Value.int IntKind.u32 (↑(z.a + s.a).toNat : Int), Value.int IntKind.u32 (↑z.b.toNat : Int), Value.int IntKind.u32 (↑z.c.toNat : Int), Value.int IntKind.u32 (↑z.d.toNat : Int), Value.int IntKind.u32 (↑z.e.toNat : Int), Value.int IntKind.u32 (↑z.f.toNat : Int), Value.int IntKind.u32 (↑z.g.toNat : Int), Value.int IntKind.u32 (↑z.h.toNat : Int)], cel sb 26 [U s.a, U s.b, U s.c, U s.d, U s.e, U s.f, U s.g, U s.h], cel rb 26 (List.map U (List.replicate 8 0))]) rfl
  refine ⟨.inl hb4, ?_⟩
  refine Reg.pures [7] (fuel' := 2) (.inl hb4) rfl (by kernel_rfl) ?_
  refine Reg.known 209 _ (by kernel_rfl) (U_add (z.b) (s.b)) ?_
  refine Reg.pures [8] (fuel' := 1) (.inl hb4) rfl (by kernel_rfl) ?_
  refine Reg.step 9 (by kernel_rfl) (One.store 0 (t := 25) (off := 1) (v := Value.int IntKind.u32 (↑(z.b + s.b).toNat : Int)) (vs' := [Value.int IntKind.u32 (↑(z.a + s.a).toNat : Int), Value.int IntKind.u32 (↑(z.b + s.b).toNat : Int), Value.int IntKind.u32 (↑z.c.toNat : Int), Value.int IntKind.u32 (↑z.d.toNat : Int), Value.int IntKind.u32 (↑z.e.toNat : Int), Value.int IntKind.u32 (↑z.f.toNat : Int), Value.int IntKind.u32 (↑z.g.toNat : Int), Value.int IntKind.u32 (↑z.h.toNat : Int)]) hs1 rfl (by kernel_rfl) (by kernel_rfl) (by kernel_rfl) fun w4 hs2 => ?_)
  simp only [List.set_cons_zero, List.set_cons_succ] at hs2
  clear hs1
  refine ⟨(.inr (by kernel_rfl)), ?_⟩
  refine Reg.done (by kernel_rfl) ?_
  refine To.run 6 ?_
  refine To.run 1 ?_
  refine To.at (fn := Try.f21) (n := 29) (l := [(3, Value.pointer (some { block := sb, off := 0 })), (6, Value.pointer (some { block := rb, off := 0 })), (12, Value.pointer (some { block := vb, off := 0 })), (18, Value.int IntKind.i64 2)]) (by kernel_rfl) fun j => ?_
  refine To.run 10 ?_
  refine To.draw [cel vb 26 [Value.int IntKind.u32 (↑(z.a + s.a).toNat : Int), Value.int IntKind.u32 (↑(z.b + s.b).toNat : Int), Value.int IntKind.u32 (↑z.c.toNat : Int), Value.int IntKind.u32 (↑z.d.toNat : Int), Value.int IntKind.u32 (↑z.e.toNat : Int), Value.int IntKind.u32 (↑z.f.toNat : Int), Value.int IntKind.u32 (↑z.g.toNat : Int), Value.int IntKind.u32 (↑z.h.toNat : Int)], cel sb 26 [U s.a, U s.b, U s.c, U s.d, U s.e, U s.f, U s.g, U s.h], cel rb 26 (List.map U (List.replicate 8 0))] [9] 10 hs2 (by kernel_rfl) (by kernel_rfl) (by kernel_rfl) fun w5 hs1 => ?_
  clear hs2
  have hb5 := Sat.holds hs1 [0, 1, 2] rfl
  refine Reg.pures [0, 1, 2, 4, 5] (fuel' := 5) (.inl hb5) rfl (by kernel_rfl) ?_
  refine Reg.load 3 0 (t := 25) (off := 2) (v := Value.int IntKind.u32 (↑z.c.toNat : Int)) (.inl hb5) rfl (by kernel_rfl) (by kernel_rfl) (by kernel_rfl) ?_
  refine Reg.step 6 (by kernel_rfl) (One.load 1 (t := 25) (off := 2) (v := Value.int IntKind.u32 (↑s.c.toNat : Int)) hs1 rfl (by kernel_rfl) (by kernel_rfl) ?_)
  have hb6 := Sat.holds hs1 [0, 1, 2] (B := [cel vb 26 [Value.int IntKind.u32 (↑(z.a + s.a).toNat : Int), Value.int IntKind.u32 (↑(z.b + s.b).toNat : Int), Value.int IntKind.u32 (↑z.c.toNat : Int), Value.int IntKind.u32 (↑z.d.toNat : Int), Value.int IntKind.u32 (↑z.e.toNat : Int), Value.int IntKind.u32 (↑z.f.toNat : Int), Value.int IntKind.u32 (↑z.g.toNat : Int), Value.int IntKind.u32 (↑z.h.toNat : Int)], cel sb 26 [U s.a, U s.b, U s.c, U s.d, U s.e, U s.f, U s.g, U s.h], cel rb 26 (List.map U (List.replicate 8 0))]) rfl
  refine ⟨.inl hb6, ?_⟩
  refine Reg.pures [7] (fuel' := 2) (.inl hb6) rfl (by kernel_rfl) ?_
  refine Reg.known 209 _ (by kernel_rfl) (U_add (z.c) (s.c)) ?_
  refine Reg.pures [8] (fuel' := 1) (.inl hb6) rfl (by kernel_rfl) ?_
  refine Reg.step 9 (by kernel_rfl) (One.store 0 (t := 25) (off := 2) (v := Value.int IntKind.u32 (↑(z.c + s.c).toNat : Int)) (vs' := [Value.int IntKind.u32 (↑(z.a + s.a).toNat : Int), Value.int IntKind.u32 (↑(z.b + s.b).toNat : Int), Value.int IntKind.u32 (↑(z.c + s.c).toNat : Int), Value.int IntKind.u32 (↑z.d.toNat : Int), Value.int IntKind.u32 (↑z.e.toNat : Int), Value.int IntKind.u32 (↑z.f.toNat : Int), Value.int IntKind.u32 (↑z.g.toNat : Int), Value.int IntKind.u32 (↑z.h.toNat : Int)]) hs1 rfl (by kernel_rfl) (by kernel_rfl) (by kernel_rfl) fun w6 hs2 => ?_)
  simp only [List.set_cons_zero, List.set_cons_succ] at hs2
  clear hs1
  refine ⟨(.inr (by kernel_rfl)), ?_⟩
  refine Reg.done (by kernel_rfl) ?_
  refine To.run 6 ?_
  refine To.run 1 ?_
  refine To.at (fn := Try.f21) (n := 29) (l := [(3, Value.pointer (some { block := sb, off := 0 })), (6, Value.pointer (some { block := rb, off := 0 })), (12, Value.pointer (some { block := vb, off := 0 })), (18, Value.int IntKind.i64 3)]) (by kernel_rfl) fun j => ?_
  refine To.run 10 ?_
  refine To.draw [cel vb 26 [Value.int IntKind.u32 (↑(z.a + s.a).toNat : Int), Value.int IntKind.u32 (↑(z.b + s.b).toNat : Int), Value.int IntKind.u32 (↑(z.c + s.c).toNat : Int), Value.int IntKind.u32 (↑z.d.toNat : Int), Value.int IntKind.u32 (↑z.e.toNat : Int), Value.int IntKind.u32 (↑z.f.toNat : Int), Value.int IntKind.u32 (↑z.g.toNat : Int), Value.int IntKind.u32 (↑z.h.toNat : Int)], cel sb 26 [U s.a, U s.b, U s.c, U s.d, U s.e, U s.f, U s.g, U s.h], cel rb 26 (List.map U (List.replicate 8 0))] [9] 10 hs2 (by kernel_rfl) (by kernel_rfl) (by kernel_rfl) fun w7 hs1 => ?_
  clear hs2
  have hb7 := Sat.holds hs1 [0, 1, 2] rfl
  refine Reg.pures [0, 1, 2, 4, 5] (fuel' := 5) (.inl hb7) rfl (by kernel_rfl) ?_
  refine Reg.load 3 0 (t := 25) (off := 3) (v := Value.int IntKind.u32 (↑z.d.toNat : Int)) (.inl hb7) rfl (by kernel_rfl) (by kernel_rfl) (by kernel_rfl) ?_
  refine Reg.step 6 (by kernel_rfl) (One.load 1 (t := 25) (off := 3) (v := Value.int IntKind.u32 (↑s.d.toNat : Int)) hs1 rfl (by kernel_rfl) (by kernel_rfl) ?_)
  have hb8 := Sat.holds hs1 [0, 1, 2] (B := [cel vb 26 [Value.int IntKind.u32 (↑(z.a + s.a).toNat : Int), Value.int IntKind.u32 (↑(z.b + s.b).toNat : Int), Value.int IntKind.u32 (↑(z.c + s.c).toNat : Int), Value.int IntKind.u32 (↑z.d.toNat : Int), Value.int IntKind.u32 (↑z.e.toNat : Int), Value.int IntKind.u32 (↑z.f.toNat : Int), Value.int IntKind.u32 (↑z.g.toNat : Int), Value.int IntKind.u32 (↑z.h.toNat : Int)], cel sb 26 [U s.a, U s.b, U s.c, U s.d, U s.e, U s.f, U s.g, U s.h], cel rb 26 (List.map U (List.replicate 8 0))]) rfl
  refine ⟨.inl hb8, ?_⟩
  refine Reg.pures [7] (fuel' := 2) (.inl hb8) rfl (by kernel_rfl) ?_
  refine Reg.known 209 _ (by kernel_rfl) (U_add (z.d) (s.d)) ?_
  refine Reg.pures [8] (fuel' := 1) (.inl hb8) rfl (by kernel_rfl) ?_
  refine Reg.step 9 (by kernel_rfl) (One.store 0 (t := 25) (off := 3) (v := Value.int IntKind.u32 (↑(z.d + s.d).toNat : Int)) (vs' := [Value.int IntKind.u32 (↑(z.a + s.a).toNat : Int), Value.int IntKind.u32 (↑(z.b + s.b).toNat : Int), Value.int IntKind.u32 (↑(z.c + s.c).toNat : Int), Value.int IntKind.u32 (↑(z.d + s.d).toNat : Int), Value.int IntKind.u32 (↑z.e.toNat : Int), Value.int IntKind.u32 (↑z.f.toNat : Int), Value.int IntKind.u32 (↑z.g.toNat : Int), Value.int IntKind.u32 (↑z.h.toNat : Int)]) hs1 rfl (by kernel_rfl) (by kernel_rfl) (by kernel_rfl) fun w8 hs2 => ?_)
  simp only [List.set_cons_zero, List.set_cons_succ] at hs2
  clear hs1
  refine ⟨(.inr (by kernel_rfl)), ?_⟩
  refine Reg.done (by kernel_rfl) ?_
  refine To.run 6 ?_
  refine To.run 1 ?_
  refine To.at (fn := Try.f21) (n := 29) (l := [(3, Value.pointer (some { block := sb, off := 0 })), (6, Value.pointer (some { block := rb, off := 0 })), (12, Value.pointer (some { block := vb, off := 0 })), (18, Value.int IntKind.i64 4)]) (by kernel_rfl) fun j => ?_
  refine To.run 10 ?_
  refine To.draw [cel vb 26 [Value.int IntKind.u32 (↑(z.a + s.a).toNat : Int), Value.int IntKind.u32 (↑(z.b + s.b).toNat : Int), Value.int IntKind.u32 (↑(z.c + s.c).toNat : Int), Value.int IntKind.u32 (↑(z.d + s.d).toNat : Int), Value.int IntKind.u32 (↑z.e.toNat : Int), Value.int IntKind.u32 (↑z.f.toNat : Int), Value.int IntKind.u32 (↑z.g.toNat : Int), Value.int IntKind.u32 (↑z.h.toNat : Int)], cel sb 26 [U s.a, U s.b, U s.c, U s.d, U s.e, U s.f, U s.g, U s.h], cel rb 26 (List.map U (List.replicate 8 0))] [9] 10 hs2 (by kernel_rfl) (by kernel_rfl) (by kernel_rfl) fun w9 hs1 => ?_
  clear hs2
  have hb9 := Sat.holds hs1 [0, 1, 2] rfl
  refine Reg.pures [0, 1, 2, 4, 5] (fuel' := 5) (.inl hb9) rfl (by kernel_rfl) ?_
  refine Reg.load 3 0 (t := 25) (off := 4) (v := Value.int IntKind.u32 (↑z.e.toNat : Int)) (.inl hb9) rfl (by kernel_rfl) (by kernel_rfl) (by kernel_rfl) ?_
  refine Reg.step 6 (by kernel_rfl) (One.load 1 (t := 25) (off := 4) (v := Value.int IntKind.u32 (↑s.e.toNat : Int)) hs1 rfl (by kernel_rfl) (by kernel_rfl) ?_)
  have hb10 := Sat.holds hs1 [0, 1, 2] (B := [cel vb 26 [Value.int IntKind.u32 (↑(z.a + s.a).toNat : Int), Value.int IntKind.u32 (↑(z.b + s.b).toNat : Int), Value.int IntKind.u32 (↑(z.c + s.c).toNat : Int), Value.int IntKind.u32 (↑(z.d + s.d).toNat : Int), Value.int IntKind.u32 (↑z.e.toNat : Int), Value.int IntKind.u32 (↑z.f.toNat : Int), Value.int IntKind.u32 (↑z.g.toNat : Int), Value.int IntKind.u32 (↑z.h.toNat : Int)], cel sb 26 [U s.a, U s.b, U s.c, U s.d, U s.e, U s.f, U s.g, U s.h], cel rb 26 (List.map U (List.replicate 8 0))]) rfl
  refine ⟨.inl hb10, ?_⟩
  refine Reg.pures [7] (fuel' := 2) (.inl hb10) rfl (by kernel_rfl) ?_
  refine Reg.known 209 _ (by kernel_rfl) (U_add (z.e) (s.e)) ?_
  refine Reg.pures [8] (fuel' := 1) (.inl hb10) rfl (by kernel_rfl) ?_
  refine Reg.step 9 (by kernel_rfl) (One.store 0 (t := 25) (off := 4) (v := Value.int IntKind.u32 (↑(z.e + s.e).toNat : Int)) (vs' := [Value.int IntKind.u32 (↑(z.a + s.a).toNat : Int), Value.int IntKind.u32 (↑(z.b + s.b).toNat : Int), Value.int IntKind.u32 (↑(z.c + s.c).toNat : Int), Value.int IntKind.u32 (↑(z.d + s.d).toNat : Int), Value.int IntKind.u32 (↑(z.e + s.e).toNat : Int), Value.int IntKind.u32 (↑z.f.toNat : Int), Value.int IntKind.u32 (↑z.g.toNat : Int), Value.int IntKind.u32 (↑z.h.toNat : Int)]) hs1 rfl (by kernel_rfl) (by kernel_rfl) (by kernel_rfl) fun w10 hs2 => ?_)
  simp only [List.set_cons_zero, List.set_cons_succ] at hs2
  clear hs1
  refine ⟨(.inr (by kernel_rfl)), ?_⟩
  refine Reg.done (by kernel_rfl) ?_
  refine To.run 6 ?_
  refine To.run 1 ?_
  refine To.at (fn := Try.f21) (n := 29) (l := [(3, Value.pointer (some { block := sb, off := 0 })), (6, Value.pointer (some { block := rb, off := 0 })), (12, Value.pointer (some { block := vb, off := 0 })), (18, Value.int IntKind.i64 5)]) (by kernel_rfl) fun j => ?_
  refine To.run 10 ?_
  refine To.draw [cel vb 26 [Value.int IntKind.u32 (↑(z.a + s.a).toNat : Int), Value.int IntKind.u32 (↑(z.b + s.b).toNat : Int), Value.int IntKind.u32 (↑(z.c + s.c).toNat : Int), Value.int IntKind.u32 (↑(z.d + s.d).toNat : Int), Value.int IntKind.u32 (↑(z.e + s.e).toNat : Int), Value.int IntKind.u32 (↑z.f.toNat : Int), Value.int IntKind.u32 (↑z.g.toNat : Int), Value.int IntKind.u32 (↑z.h.toNat : Int)], cel sb 26 [U s.a, U s.b, U s.c, U s.d, U s.e, U s.f, U s.g, U s.h], cel rb 26 (List.map U (List.replicate 8 0))] [9] 10 hs2 (by kernel_rfl) (by kernel_rfl) (by kernel_rfl) fun w11 hs1 => ?_
  clear hs2
  have hb11 := Sat.holds hs1 [0, 1, 2] rfl
  refine Reg.pures [0, 1, 2, 4, 5] (fuel' := 5) (.inl hb11) rfl (by kernel_rfl) ?_
  refine Reg.load 3 0 (t := 25) (off := 5) (v := Value.int IntKind.u32 (↑z.f.toNat : Int)) (.inl hb11) rfl (by kernel_rfl) (by kernel_rfl) (by kernel_rfl) ?_
  refine Reg.step 6 (by kernel_rfl) (One.load 1 (t := 25) (off := 5) (v := Value.int IntKind.u32 (↑s.f.toNat : Int)) hs1 rfl (by kernel_rfl) (by kernel_rfl) ?_)
  have hb12 := Sat.holds hs1 [0, 1, 2] (B := [cel vb 26 [Value.int IntKind.u32 (↑(z.a + s.a).toNat : Int), Value.int IntKind.u32 (↑(z.b + s.b).toNat : Int), Value.int IntKind.u32 (↑(z.c + s.c).toNat : Int), Value.int IntKind.u32 (↑(z.d + s.d).toNat : Int), Value.int IntKind.u32 (↑(z.e + s.e).toNat : Int), Value.int IntKind.u32 (↑z.f.toNat : Int), Value.int IntKind.u32 (↑z.g.toNat : Int), Value.int IntKind.u32 (↑z.h.toNat : Int)], cel sb 26 [U s.a, U s.b, U s.c, U s.d, U s.e, U s.f, U s.g, U s.h], cel rb 26 (List.map U (List.replicate 8 0))]) rfl
  refine ⟨.inl hb12, ?_⟩
  refine Reg.pures [7] (fuel' := 2) (.inl hb12) rfl (by kernel_rfl) ?_
  refine Reg.known 209 _ (by kernel_rfl) (U_add (z.f) (s.f)) ?_
  refine Reg.pures [8] (fuel' := 1) (.inl hb12) rfl (by kernel_rfl) ?_
  refine Reg.step 9 (by kernel_rfl) (One.store 0 (t := 25) (off := 5) (v := Value.int IntKind.u32 (↑(z.f + s.f).toNat : Int)) (vs' := [Value.int IntKind.u32 (↑(z.a + s.a).toNat : Int), Value.int IntKind.u32 (↑(z.b + s.b).toNat : Int), Value.int IntKind.u32 (↑(z.c + s.c).toNat : Int), Value.int IntKind.u32 (↑(z.d + s.d).toNat : Int), Value.int IntKind.u32 (↑(z.e + s.e).toNat : Int), Value.int IntKind.u32 (↑(z.f + s.f).toNat : Int), Value.int IntKind.u32 (↑z.g.toNat : Int), Value.int IntKind.u32 (↑z.h.toNat : Int)]) hs1 rfl (by kernel_rfl) (by kernel_rfl) (by kernel_rfl) fun w12 hs2 => ?_)
  simp only [List.set_cons_zero, List.set_cons_succ] at hs2
  clear hs1
  refine ⟨(.inr (by kernel_rfl)), ?_⟩
  refine Reg.done (by kernel_rfl) ?_
  refine To.run 6 ?_
  refine To.run 1 ?_
  refine To.at (fn := Try.f21) (n := 29) (l := [(3, Value.pointer (some { block := sb, off := 0 })), (6, Value.pointer (some { block := rb, off := 0 })), (12, Value.pointer (some { block := vb, off := 0 })), (18, Value.int IntKind.i64 6)]) (by kernel_rfl) fun j => ?_
  refine To.run 10 ?_
  refine To.draw [cel vb 26 [Value.int IntKind.u32 (↑(z.a + s.a).toNat : Int), Value.int IntKind.u32 (↑(z.b + s.b).toNat : Int), Value.int IntKind.u32 (↑(z.c + s.c).toNat : Int), Value.int IntKind.u32 (↑(z.d + s.d).toNat : Int), Value.int IntKind.u32 (↑(z.e + s.e).toNat : Int), Value.int IntKind.u32 (↑(z.f + s.f).toNat : Int), Value.int IntKind.u32 (↑z.g.toNat : Int), Value.int IntKind.u32 (↑z.h.toNat : Int)], cel sb 26 [U s.a, U s.b, U s.c, U s.d, U s.e, U s.f, U s.g, U s.h], cel rb 26 (List.map U (List.replicate 8 0))] [9] 10 hs2 (by kernel_rfl) (by kernel_rfl) (by kernel_rfl) fun w13 hs1 => ?_
  clear hs2
  have hb13 := Sat.holds hs1 [0, 1, 2] rfl
  refine Reg.pures [0, 1, 2, 4, 5] (fuel' := 5) (.inl hb13) rfl (by kernel_rfl) ?_
  refine Reg.load 3 0 (t := 25) (off := 6) (v := Value.int IntKind.u32 (↑z.g.toNat : Int)) (.inl hb13) rfl (by kernel_rfl) (by kernel_rfl) (by kernel_rfl) ?_
  refine Reg.step 6 (by kernel_rfl) (One.load 1 (t := 25) (off := 6) (v := Value.int IntKind.u32 (↑s.g.toNat : Int)) hs1 rfl (by kernel_rfl) (by kernel_rfl) ?_)
  have hb14 := Sat.holds hs1 [0, 1, 2] (B := [cel vb 26 [Value.int IntKind.u32 (↑(z.a + s.a).toNat : Int), Value.int IntKind.u32 (↑(z.b + s.b).toNat : Int), Value.int IntKind.u32 (↑(z.c + s.c).toNat : Int), Value.int IntKind.u32 (↑(z.d + s.d).toNat : Int), Value.int IntKind.u32 (↑(z.e + s.e).toNat : Int), Value.int IntKind.u32 (↑(z.f + s.f).toNat : Int), Value.int IntKind.u32 (↑z.g.toNat : Int), Value.int IntKind.u32 (↑z.h.toNat : Int)], cel sb 26 [U s.a, U s.b, U s.c, U s.d, U s.e, U s.f, U s.g, U s.h], cel rb 26 (List.map U (List.replicate 8 0))]) rfl
  refine ⟨.inl hb14, ?_⟩
  refine Reg.pures [7] (fuel' := 2) (.inl hb14) rfl (by kernel_rfl) ?_
  refine Reg.known 209 _ (by kernel_rfl) (U_add (z.g) (s.g)) ?_
  refine Reg.pures [8] (fuel' := 1) (.inl hb14) rfl (by kernel_rfl) ?_
  refine Reg.step 9 (by kernel_rfl) (One.store 0 (t := 25) (off := 6) (v := Value.int IntKind.u32 (↑(z.g + s.g).toNat : Int)) (vs' := [Value.int IntKind.u32 (↑(z.a + s.a).toNat : Int), Value.int IntKind.u32 (↑(z.b + s.b).toNat : Int), Value.int IntKind.u32 (↑(z.c + s.c).toNat : Int), Value.int IntKind.u32 (↑(z.d + s.d).toNat : Int), Value.int IntKind.u32 (↑(z.e + s.e).toNat : Int), Value.int IntKind.u32 (↑(z.f + s.f).toNat : Int), Value.int IntKind.u32 (↑(z.g + s.g).toNat : Int), Value.int IntKind.u32 (↑z.h.toNat : Int)]) hs1 rfl (by kernel_rfl) (by kernel_rfl) (by kernel_rfl) fun w14 hs2 => ?_)
  simp only [List.set_cons_zero, List.set_cons_succ] at hs2
  clear hs1
  refine ⟨(.inr (by kernel_rfl)), ?_⟩
  refine Reg.done (by kernel_rfl) ?_
  refine To.run 6 ?_
  refine To.run 1 ?_
  refine To.at (fn := Try.f21) (n := 29) (l := [(3, Value.pointer (some { block := sb, off := 0 })), (6, Value.pointer (some { block := rb, off := 0 })), (12, Value.pointer (some { block := vb, off := 0 })), (18, Value.int IntKind.i64 7)]) (by kernel_rfl) fun j => ?_
  refine To.run 10 ?_
  refine To.draw [cel vb 26 [Value.int IntKind.u32 (↑(z.a + s.a).toNat : Int), Value.int IntKind.u32 (↑(z.b + s.b).toNat : Int), Value.int IntKind.u32 (↑(z.c + s.c).toNat : Int), Value.int IntKind.u32 (↑(z.d + s.d).toNat : Int), Value.int IntKind.u32 (↑(z.e + s.e).toNat : Int), Value.int IntKind.u32 (↑(z.f + s.f).toNat : Int), Value.int IntKind.u32 (↑(z.g + s.g).toNat : Int), Value.int IntKind.u32 (↑z.h.toNat : Int)], cel sb 26 [U s.a, U s.b, U s.c, U s.d, U s.e, U s.f, U s.g, U s.h], cel rb 26 (List.map U (List.replicate 8 0))] [9] 10 hs2 (by kernel_rfl) (by kernel_rfl) (by kernel_rfl) fun w15 hs1 => ?_
  clear hs2
  have hb15 := Sat.holds hs1 [0, 1, 2] rfl
  refine Reg.pures [0, 1, 2, 4, 5] (fuel' := 5) (.inl hb15) rfl (by kernel_rfl) ?_
  refine Reg.load 3 0 (t := 25) (off := 7) (v := Value.int IntKind.u32 (↑z.h.toNat : Int)) (.inl hb15) rfl (by kernel_rfl) (by kernel_rfl) (by kernel_rfl) ?_
  refine Reg.step 6 (by kernel_rfl) (One.load 1 (t := 25) (off := 7) (v := Value.int IntKind.u32 (↑s.h.toNat : Int)) hs1 rfl (by kernel_rfl) (by kernel_rfl) ?_)
  have hb16 := Sat.holds hs1 [0, 1, 2] (B := [cel vb 26 [Value.int IntKind.u32 (↑(z.a + s.a).toNat : Int), Value.int IntKind.u32 (↑(z.b + s.b).toNat : Int), Value.int IntKind.u32 (↑(z.c + s.c).toNat : Int), Value.int IntKind.u32 (↑(z.d + s.d).toNat : Int), Value.int IntKind.u32 (↑(z.e + s.e).toNat : Int), Value.int IntKind.u32 (↑(z.f + s.f).toNat : Int), Value.int IntKind.u32 (↑(z.g + s.g).toNat : Int), Value.int IntKind.u32 (↑z.h.toNat : Int)], cel sb 26 [U s.a, U s.b, U s.c, U s.d, U s.e, U s.f, U s.g, U s.h], cel rb 26 (List.map U (List.replicate 8 0))]) rfl
  refine ⟨.inl hb16, ?_⟩
  refine Reg.pures [7] (fuel' := 2) (.inl hb16) rfl (by kernel_rfl) ?_
  refine Reg.known 209 _ (by kernel_rfl) (U_add (z.h) (s.h)) ?_
  refine Reg.pures [8] (fuel' := 1) (.inl hb16) rfl (by kernel_rfl) ?_
  refine Reg.step 9 (by kernel_rfl) (One.store 0 (t := 25) (off := 7) (v := Value.int IntKind.u32 (↑(z.h + s.h).toNat : Int)) (vs' := [Value.int IntKind.u32 (↑(z.a + s.a).toNat : Int), Value.int IntKind.u32 (↑(z.b + s.b).toNat : Int), Value.int IntKind.u32 (↑(z.c + s.c).toNat : Int), Value.int IntKind.u32 (↑(z.d + s.d).toNat : Int), Value.int IntKind.u32 (↑(z.e + s.e).toNat : Int), Value.int IntKind.u32 (↑(z.f + s.f).toNat : Int), Value.int IntKind.u32 (↑(z.g + s.g).toNat : Int), Value.int IntKind.u32 (↑(z.h + s.h).toNat : Int)]) hs1 rfl (by kernel_rfl) (by kernel_rfl) (by kernel_rfl) fun w16 hs2 => ?_)
  simp only [List.set_cons_zero, List.set_cons_succ] at hs2
  clear hs1
  refine ⟨(.inr (by kernel_rfl)), ?_⟩
  refine Reg.done (by kernel_rfl) ?_
  refine To.run 6 ?_
  refine To.run 1 ?_
  refine To.at (fn := Try.f21) (n := 29) (l := [(3, Value.pointer (some { block := sb, off := 0 })), (6, Value.pointer (some { block := rb, off := 0 })), (12, Value.pointer (some { block := vb, off := 0 })), (18, Value.int IntKind.i64 8)]) (by kernel_rfl) fun j => ?_
  refine To.run 10 ?_
  refine To.one (One.load 0 (t := 26) (off := 0) (v := Value.agg #[Value.int IntKind.u32 (↑(z.a + s.a).toNat : Int), Value.int IntKind.u32 (↑(z.b + s.b).toNat : Int), Value.int IntKind.u32 (↑(z.c + s.c).toNat : Int), Value.int IntKind.u32 (↑(z.d + s.d).toNat : Int), Value.int IntKind.u32 (↑(z.e + s.e).toNat : Int), Value.int IntKind.u32 (↑(z.f + s.f).toNat : Int), Value.int IntKind.u32 (↑(z.g + s.g).toNat : Int), Value.int IntKind.u32 (↑(z.h + s.h).toNat : Int)]) hs2 rfl (by kernel_rfl) (by kernel_rfl) ?_)
  refine To.one (One.store 2 (t := 26) (off := 0) (v := Value.agg #[Value.int IntKind.u32 (↑(z.a + s.a).toNat : Int), Value.int IntKind.u32 (↑(z.b + s.b).toNat : Int), Value.int IntKind.u32 (↑(z.c + s.c).toNat : Int), Value.int IntKind.u32 (↑(z.d + s.d).toNat : Int), Value.int IntKind.u32 (↑(z.e + s.e).toNat : Int), Value.int IntKind.u32 (↑(z.f + s.f).toNat : Int), Value.int IntKind.u32 (↑(z.g + s.g).toNat : Int), Value.int IntKind.u32 (↑(z.h + s.h).toNat : Int)]) (vs' := [Value.int IntKind.u32 (↑(z.a + s.a).toNat : Int), Value.int IntKind.u32 (↑(z.b + s.b).toNat : Int), Value.int IntKind.u32 (↑(z.c + s.c).toNat : Int), Value.int IntKind.u32 (↑(z.d + s.d).toNat : Int), Value.int IntKind.u32 (↑(z.e + s.e).toNat : Int), Value.int IntKind.u32 (↑(z.f + s.f).toNat : Int), Value.int IntKind.u32 (↑(z.g + s.g).toNat : Int), Value.int IntKind.u32 (↑(z.h + s.h).toNat : Int)]) hs2 rfl (by kernel_rfl) (by kernel_rfl) (by kernel_rfl) fun w17 hs1 => ?_)
  simp only [List.set_cons_zero, List.set_cons_succ] at hs1
  clear hs2
  refine To.run 1 ?_
  refine To.retCell 2 6 (t := 26) (off := 0) (v := Value.agg #[Value.int IntKind.u32 (↑(z.a + s.a).toNat : Int), Value.int IntKind.u32 (↑(z.b + s.b).toNat : Int), Value.int IntKind.u32 (↑(z.c + s.c).toNat : Int), Value.int IntKind.u32 (↑(z.d + s.d).toNat : Int), Value.int IntKind.u32 (↑(z.e + s.e).toNat : Int), Value.int IntKind.u32 (↑(z.f + s.f).toNat : Int), Value.int IntKind.u32 (↑(z.g + s.g).toNat : Int), Value.int IntKind.u32 (↑(z.h + s.h).toNat : Int)]) hs1 rfl Try.func21 (by kernel_rfl) (by kernel_rfl) (by kernel_rfl) (by kernel_rfl) ?_
  exact ⟨_, _, rfl, ⟨rfl, rfl⟩, hs1.sub (((List.sublist_cons_self _ _).cons _).cons _)⟩

theorem RB_mid (E : World) (L : List Res) (sb kb wb rb : Nat) (K W : List (BitVec 32)) (hK : K.length = 64) (hW : W.length = 64) (s : St8) (j : Nat → Value) (w : World)
    (hs : Sat E w (cel wb 40 (W.map U) :: cel rb 26 ((List.replicate 8 (0 : BitVec 32)).map U) :: cel kb 40 (K.map U) :: cel sb 26 (s.list.map U) :: L)) :
    To Try.prog 21 (Cfg.here Try.f21 10 j [(3, .pointer (some ⟨sb, 0, none⟩)), (5, .pointer (some ⟨kb, 0, none⟩)), (6, .pointer (some ⟨rb, 0, none⟩)), (7, .pointer (some ⟨wb, 0, none⟩)), (9, .int .i64 64)]) w
        (Fins E L (fun v l => v = aggU (s.add (rounds K W s 0 64)).list ∧ l = [])) := by
  unfold St8.list at hs
  simp only [List.map_cons, List.map_nil] at hs
  refine To.run 10 ?_
  refine To.one (One.load 3 (t := 26) (off := 0) (v := Value.agg #[Value.int IntKind.u32 (↑s.a.toNat : Int), Value.int IntKind.u32 (↑s.b.toNat : Int), Value.int IntKind.u32 (↑s.c.toNat : Int), Value.int IntKind.u32 (↑s.d.toNat : Int), Value.int IntKind.u32 (↑s.e.toNat : Int), Value.int IntKind.u32 (↑s.f.toNat : Int), Value.int IntKind.u32 (↑s.g.toNat : Int), Value.int IntKind.u32 (↑s.h.toNat : Int)]) hs rfl (by kernel_rfl) (by kernel_rfl) ?_)
  refine To.one (One.alloc (t := 26) [Value.int IntKind.u32 0, Value.int IntKind.u32 0, Value.int IntKind.u32 0, Value.int IntKind.u32 0, Value.int IntKind.u32 0, Value.int IntKind.u32 0, Value.int IntKind.u32 0, Value.int IntKind.u32 0] hs (by kernel_rfl) (by kernel_rfl) fun b1 w1 hs1 => ?_)
  clear hs
  refine To.one (One.store 0 (t := 26) (off := 0) (v := Value.agg #[Value.int IntKind.u32 (↑s.a.toNat : Int), Value.int IntKind.u32 (↑s.b.toNat : Int), Value.int IntKind.u32 (↑s.c.toNat : Int), Value.int IntKind.u32 (↑s.d.toNat : Int), Value.int IntKind.u32 (↑s.e.toNat : Int), Value.int IntKind.u32 (↑s.f.toNat : Int), Value.int IntKind.u32 (↑s.g.toNat : Int), Value.int IntKind.u32 (↑s.h.toNat : Int)]) (vs' := [Value.int IntKind.u32 (↑s.a.toNat : Int), Value.int IntKind.u32 (↑s.b.toNat : Int), Value.int IntKind.u32 (↑s.c.toNat : Int), Value.int IntKind.u32 (↑s.d.toNat : Int), Value.int IntKind.u32 (↑s.e.toNat : Int), Value.int IntKind.u32 (↑s.f.toNat : Int), Value.int IntKind.u32 (↑s.g.toNat : Int), Value.int IntKind.u32 (↑s.h.toNat : Int)]) hs1 rfl (by kernel_rfl) (by kernel_rfl) (by kernel_rfl) fun w2 hs2 => ?_)
  simp only [List.set_cons_zero, List.set_cons_succ] at hs2
  clear hs1
  refine To.run 7 ?_
  refine To.run 1 ?_
  refine To.at (fn := Try.f21) (n := 19) (l := [(3, Value.pointer (some { block := sb, off := 0 })), (5, Value.pointer (some { block := kb, off := 0 })), (6, Value.pointer (some { block := rb, off := 0 })), (7, Value.pointer (some { block := wb, off := 0 })), (12, Value.pointer (some { block := b1, off := 0 })), (13, Value.int IntKind.i64 0)]) (by kernel_rfl) fun j => ?_
  have hs9 : Sat E _ (cel b1 26 (s.list.map U) :: cel wb 40 (W.map U) :: cel kb 40 (K.map U) :: cel sb 26 (s.list.map U) :: cel rb 26 ((List.replicate 8 (0 : BitVec 32)).map U) :: L) := hs2.selDrop 5 [0, 1, 3, 4, 2] (by decide) (by decide)
  exact RB_rounds E _ (cel sb 26 (s.list.map U) :: cel rb 26 ((List.replicate 8 (0 : BitVec 32)).map U) :: L) sb kb wb rb b1 K W hK hW (rounds K W s 0 64) (fun j w hs => RB_last E L sb rb b1 s (rounds K W s 0 64) j w (hs.selDrop 5 [0, 3, 4] (by decide) (by decide))) 64 0 s _ _ rfl rfl hs9

theorem RBlock_ok (s : St8) (b : ByteArray) (hb : b.size = 64) : Trip Try.prog 21 [aggU s.list, .string b, aggU K64] [] (fun v l => v = aggU (blockS s b.data.toList).list ∧ l = []) := by
  refine Trip.of Try.func21 (by kernel_rfl) fun E w L hs => ?_
  simp only [List.nil_append] at hs
  have hbl : b.data.toList.length = 64 := by rw [Array.length_toList]; exact hb
  refine To.run 2 ?_
  refine To.one (One.box (t := 26) (v := Value.agg #[Value.int IntKind.u32 (↑s.a.toNat : Int), Value.int IntKind.u32 (↑s.b.toNat : Int), Value.int IntKind.u32 (↑s.c.toNat : Int), Value.int IntKind.u32 (↑s.d.toNat : Int), Value.int IntKind.u32 (↑s.e.toNat : Int), Value.int IntKind.u32 (↑s.f.toNat : Int), Value.int IntKind.u32 (↑s.g.toNat : Int), Value.int IntKind.u32 (↑s.h.toNat : Int)]) [Value.int IntKind.u32 (↑s.a.toNat : Int), Value.int IntKind.u32 (↑s.b.toNat : Int), Value.int IntKind.u32 (↑s.c.toNat : Int), Value.int IntKind.u32 (↑s.d.toNat : Int), Value.int IntKind.u32 (↑s.e.toNat : Int), Value.int IntKind.u32 (↑s.f.toNat : Int), Value.int IntKind.u32 (↑s.g.toNat : Int), Value.int IntKind.u32 (↑s.h.toNat : Int)] hs (by kernel_rfl) (by kernel_rfl) fun b1 w1 hs1 => ?_)
  clear hs
  refine To.one (One.box (t := 40) (v := Value.agg #[Value.int IntKind.u32 1116352408, Value.int IntKind.u32 1899447441, Value.int IntKind.u32 3049323471, Value.int IntKind.u32 3921009573, Value.int IntKind.u32 961987163, Value.int IntKind.u32 1508970993, Value.int IntKind.u32 2453635748, Value.int IntKind.u32 2870763221, Value.int IntKind.u32 3624381080, Value.int IntKind.u32 310598401, Value.int IntKind.u32 607225278, Value.int IntKind.u32 1426881987, Value.int IntKind.u32 1925078388, Value.int IntKind.u32 2162078206, Value.int IntKind.u32 2614888103, Value.int IntKind.u32 3248222580, Value.int IntKind.u32 3835390401, Value.int IntKind.u32 4022224774, Value.int IntKind.u32 264347078, Value.int IntKind.u32 604807628, Value.int IntKind.u32 770255983, Value.int IntKind.u32 1249150122, Value.int IntKind.u32 1555081692, Value.int IntKind.u32 1996064986, Value.int IntKind.u32 2554220882, Value.int IntKind.u32 2821834349, Value.int IntKind.u32 2952996808, Value.int IntKind.u32 3210313671, Value.int IntKind.u32 3336571891, Value.int IntKind.u32 3584528711, Value.int IntKind.u32 113926993, Value.int IntKind.u32 338241895, Value.int IntKind.u32 666307205, Value.int IntKind.u32 773529912, Value.int IntKind.u32 1294757372, Value.int IntKind.u32 1396182291, Value.int IntKind.u32 1695183700, Value.int IntKind.u32 1986661051, Value.int IntKind.u32 2177026350, Value.int IntKind.u32 2456956037, Value.int IntKind.u32 2730485921, Value.int IntKind.u32 2820302411, Value.int IntKind.u32 3259730800, Value.int IntKind.u32 3345764771, Value.int IntKind.u32 3516065817, Value.int IntKind.u32 3600352804, Value.int IntKind.u32 4094571909, Value.int IntKind.u32 275423344, Value.int IntKind.u32 430227734, Value.int IntKind.u32 506948616, Value.int IntKind.u32 659060556, Value.int IntKind.u32 883997877, Value.int IntKind.u32 958139571, Value.int IntKind.u32 1322822218, Value.int IntKind.u32 1537002063, Value.int IntKind.u32 1747873779, Value.int IntKind.u32 1955562222, Value.int IntKind.u32 2024104815, Value.int IntKind.u32 2227730452, Value.int IntKind.u32 2361852424, Value.int IntKind.u32 2428436474, Value.int IntKind.u32 2756734187, Value.int IntKind.u32 3204031479, Value.int IntKind.u32 3329325298]) [Value.int IntKind.u32 1116352408, Value.int IntKind.u32 1899447441, Value.int IntKind.u32 3049323471, Value.int IntKind.u32 3921009573, Value.int IntKind.u32 961987163, Value.int IntKind.u32 1508970993, Value.int IntKind.u32 2453635748, Value.int IntKind.u32 2870763221, Value.int IntKind.u32 3624381080, Value.int IntKind.u32 310598401, Value.int IntKind.u32 607225278, Value.int IntKind.u32 1426881987, Value.int IntKind.u32 1925078388, Value.int IntKind.u32 2162078206, Value.int IntKind.u32 2614888103, Value.int IntKind.u32 3248222580, Value.int IntKind.u32 3835390401, Value.int IntKind.u32 4022224774, Value.int IntKind.u32 264347078, Value.int IntKind.u32 604807628, Value.int IntKind.u32 770255983, Value.int IntKind.u32 1249150122, Value.int IntKind.u32 1555081692, Value.int IntKind.u32 1996064986, Value.int IntKind.u32 2554220882, Value.int IntKind.u32 2821834349, Value.int IntKind.u32 2952996808, Value.int IntKind.u32 3210313671, Value.int IntKind.u32 3336571891, Value.int IntKind.u32 3584528711, Value.int IntKind.u32 113926993, Value.int IntKind.u32 338241895, Value.int IntKind.u32 666307205, Value.int IntKind.u32 773529912, Value.int IntKind.u32 1294757372, Value.int IntKind.u32 1396182291, Value.int IntKind.u32 1695183700, Value.int IntKind.u32 1986661051, Value.int IntKind.u32 2177026350, Value.int IntKind.u32 2456956037, Value.int IntKind.u32 2730485921, Value.int IntKind.u32 2820302411, Value.int IntKind.u32 3259730800, Value.int IntKind.u32 3345764771, Value.int IntKind.u32 3516065817, Value.int IntKind.u32 3600352804, Value.int IntKind.u32 4094571909, Value.int IntKind.u32 275423344, Value.int IntKind.u32 430227734, Value.int IntKind.u32 506948616, Value.int IntKind.u32 659060556, Value.int IntKind.u32 883997877, Value.int IntKind.u32 958139571, Value.int IntKind.u32 1322822218, Value.int IntKind.u32 1537002063, Value.int IntKind.u32 1747873779, Value.int IntKind.u32 1955562222, Value.int IntKind.u32 2024104815, Value.int IntKind.u32 2227730452, Value.int IntKind.u32 2361852424, Value.int IntKind.u32 2428436474, Value.int IntKind.u32 2756734187, Value.int IntKind.u32 3204031479, Value.int IntKind.u32 3329325298] hs1 (by kernel_rfl) (by kernel_rfl) fun b2 w2 hs2 => ?_)
  clear hs1
  refine To.one (One.alloc (t := 26) [Value.int IntKind.u32 0, Value.int IntKind.u32 0, Value.int IntKind.u32 0, Value.int IntKind.u32 0, Value.int IntKind.u32 0, Value.int IntKind.u32 0, Value.int IntKind.u32 0, Value.int IntKind.u32 0] hs2 (by kernel_rfl) (by kernel_rfl) fun b3 w3 hs1 => ?_)
  clear hs2
  refine To.run 3 ?_
  refine To.one (One.alloc (t := 40) [Value.int IntKind.u32 0, Value.int IntKind.u32 0, Value.int IntKind.u32 0, Value.int IntKind.u32 0, Value.int IntKind.u32 0, Value.int IntKind.u32 0, Value.int IntKind.u32 0, Value.int IntKind.u32 0, Value.int IntKind.u32 0, Value.int IntKind.u32 0, Value.int IntKind.u32 0, Value.int IntKind.u32 0, Value.int IntKind.u32 0, Value.int IntKind.u32 0, Value.int IntKind.u32 0, Value.int IntKind.u32 0, Value.int IntKind.u32 0, Value.int IntKind.u32 0, Value.int IntKind.u32 0, Value.int IntKind.u32 0, Value.int IntKind.u32 0, Value.int IntKind.u32 0, Value.int IntKind.u32 0, Value.int IntKind.u32 0, Value.int IntKind.u32 0, Value.int IntKind.u32 0, Value.int IntKind.u32 0, Value.int IntKind.u32 0, Value.int IntKind.u32 0, Value.int IntKind.u32 0, Value.int IntKind.u32 0, Value.int IntKind.u32 0, Value.int IntKind.u32 0, Value.int IntKind.u32 0, Value.int IntKind.u32 0, Value.int IntKind.u32 0, Value.int IntKind.u32 0, Value.int IntKind.u32 0, Value.int IntKind.u32 0, Value.int IntKind.u32 0, Value.int IntKind.u32 0, Value.int IntKind.u32 0, Value.int IntKind.u32 0, Value.int IntKind.u32 0, Value.int IntKind.u32 0, Value.int IntKind.u32 0, Value.int IntKind.u32 0, Value.int IntKind.u32 0, Value.int IntKind.u32 0, Value.int IntKind.u32 0, Value.int IntKind.u32 0, Value.int IntKind.u32 0, Value.int IntKind.u32 0, Value.int IntKind.u32 0, Value.int IntKind.u32 0, Value.int IntKind.u32 0, Value.int IntKind.u32 0, Value.int IntKind.u32 0, Value.int IntKind.u32 0, Value.int IntKind.u32 0, Value.int IntKind.u32 0, Value.int IntKind.u32 0, Value.int IntKind.u32 0, Value.int IntKind.u32 0] hs1 (by kernel_rfl) (by kernel_rfl) fun b4 w4 hs2 => ?_)
  clear hs1
  refine To.run 7 ?_
  refine To.run 1 ?_
  refine To.at (fn := Try.f21) (n := 4) (l := [(1, Value.string b), (3, Value.pointer (some { block := b1, off := 0 })), (5, Value.pointer (some { block := b2, off := 0 })), (6, Value.pointer (some { block := b3, off := 0 })), (7, Value.pointer (some { block := b4, off := 0 })), (8, Value.int IntKind.i64 0)]) (by kernel_rfl) fun j => ?_
  have hs9 : Sat E _ (cel b4 40 (zeros64.map U) :: cel b3 26 ((List.replicate 8 (0 : BitVec 32)).map U) :: cel b2 40 (K64.map U) :: cel b1 26 (s.list.map U) :: L) := hs2
  unfold blockS
  have hl1 : (fillR b.data.toList zeros64 0 16).length = 64 := by rw [fillR_len]; rfl
  refine RB_fill E _ _ b1 b2 b4 b3 b hbl _ (fun j w hs => ?_) 16 0 zeros64 _ _ rfl rfl rfl hs9
  refine RB_ext E _ _ b1 b2 b4 b3 _ (fun j w hs => ?_) 48 16 _ j w rfl (by decide) hl1 rfl hs
  exact RB_mid E L b1 b2 b4 b3 K64 _ K64_len (by rw [extN_len]; exact hl1) s j w hs
end Go.Proofs.Ytkddomellpldjaa
