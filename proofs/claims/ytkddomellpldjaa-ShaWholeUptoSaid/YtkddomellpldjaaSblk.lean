import Derived.Test.YtkddomellpldjaaProg
import Derived.Test.YtkddomellpldjaaSxStr
import Derived.Test.YtkddomellpldjaaSspec
set_option linter.unusedSimpArgs false
set_option linter.unusedVariables false
namespace Go.Proofs.Ytkddomellpldjaa
open Go Go.Sx
set_option linter.unusedSimpArgs false
set_option maxHeartbeats 0
set_option maxRecDepth 20000

theorem keys_ok : Trip Try.prog 23 [] [] (fun v l => v = aggU K64 ∧ l = []) := by
  refine Trip.of Try.func23 (by kernel_rfl) fun E w L hs => ?_
  simp only [List.nil_append] at hs
  refine To.run 2 ?_
  refine To.one (One.alloc (t := 40) [Value.int IntKind.u32 0, Value.int IntKind.u32 0, Value.int IntKind.u32 0, Value.int IntKind.u32 0, Value.int IntKind.u32 0, Value.int IntKind.u32 0, Value.int IntKind.u32 0, Value.int IntKind.u32 0, Value.int IntKind.u32 0, Value.int IntKind.u32 0, Value.int IntKind.u32 0, Value.int IntKind.u32 0, Value.int IntKind.u32 0, Value.int IntKind.u32 0, Value.int IntKind.u32 0, Value.int IntKind.u32 0, Value.int IntKind.u32 0, Value.int IntKind.u32 0, Value.int IntKind.u32 0, Value.int IntKind.u32 0, Value.int IntKind.u32 0, Value.int IntKind.u32 0, Value.int IntKind.u32 0, Value.int IntKind.u32 0, Value.int IntKind.u32 0, Value.int IntKind.u32 0, Value.int IntKind.u32 0, Value.int IntKind.u32 0, Value.int IntKind.u32 0, Value.int IntKind.u32 0, Value.int IntKind.u32 0, Value.int IntKind.u32 0, Value.int IntKind.u32 0, Value.int IntKind.u32 0, Value.int IntKind.u32 0, Value.int IntKind.u32 0, Value.int IntKind.u32 0, Value.int IntKind.u32 0, Value.int IntKind.u32 0, Value.int IntKind.u32 0, Value.int IntKind.u32 0, Value.int IntKind.u32 0, Value.int IntKind.u32 0, Value.int IntKind.u32 0, Value.int IntKind.u32 0, Value.int IntKind.u32 0, Value.int IntKind.u32 0, Value.int IntKind.u32 0, Value.int IntKind.u32 0, Value.int IntKind.u32 0, Value.int IntKind.u32 0, Value.int IntKind.u32 0, Value.int IntKind.u32 0, Value.int IntKind.u32 0, Value.int IntKind.u32 0, Value.int IntKind.u32 0, Value.int IntKind.u32 0, Value.int IntKind.u32 0, Value.int IntKind.u32 0, Value.int IntKind.u32 0, Value.int IntKind.u32 0, Value.int IntKind.u32 0, Value.int IntKind.u32 0, Value.int IntKind.u32 0] hs (by kernel_rfl) (by kernel_rfl) fun b1 w1 hs1 => ?_)
  clear hs
  refine To.run 4 ?_
  refine To.one (One.store 0 (t := 40) (off := 0) (v := Value.agg #[Value.int IntKind.u32 1116352408, Value.int IntKind.u32 1899447441, Value.int IntKind.u32 3049323471, Value.int IntKind.u32 3921009573, Value.int IntKind.u32 961987163, Value.int IntKind.u32 1508970993, Value.int IntKind.u32 2453635748, Value.int IntKind.u32 2870763221, Value.int IntKind.u32 3624381080, Value.int IntKind.u32 310598401, Value.int IntKind.u32 607225278, Value.int IntKind.u32 1426881987, Value.int IntKind.u32 1925078388, Value.int IntKind.u32 2162078206, Value.int IntKind.u32 2614888103, Value.int IntKind.u32 3248222580, Value.int IntKind.u32 3835390401, Value.int IntKind.u32 4022224774, Value.int IntKind.u32 264347078, Value.int IntKind.u32 604807628, Value.int IntKind.u32 770255983, Value.int IntKind.u32 1249150122, Value.int IntKind.u32 1555081692, Value.int IntKind.u32 1996064986, Value.int IntKind.u32 2554220882, Value.int IntKind.u32 2821834349, Value.int IntKind.u32 2952996808, Value.int IntKind.u32 3210313671, Value.int IntKind.u32 3336571891, Value.int IntKind.u32 3584528711, Value.int IntKind.u32 113926993, Value.int IntKind.u32 338241895, Value.int IntKind.u32 666307205, Value.int IntKind.u32 773529912, Value.int IntKind.u32 1294757372, Value.int IntKind.u32 1396182291, Value.int IntKind.u32 1695183700, Value.int IntKind.u32 1986661051, Value.int IntKind.u32 2177026350, Value.int IntKind.u32 2456956037, Value.int IntKind.u32 2730485921, Value.int IntKind.u32 2820302411, Value.int IntKind.u32 3259730800, Value.int IntKind.u32 3345764771, Value.int IntKind.u32 3516065817, Value.int IntKind.u32 3600352804, Value.int IntKind.u32 4094571909, Value.int IntKind.u32 275423344, Value.int IntKind.u32 430227734, Value.int IntKind.u32 506948616, Value.int IntKind.u32 659060556, Value.int IntKind.u32 883997877, Value.int IntKind.u32 958139571, Value.int IntKind.u32 1322822218, Value.int IntKind.u32 1537002063, Value.int IntKind.u32 1747873779, Value.int IntKind.u32 1955562222, Value.int IntKind.u32 2024104815, Value.int IntKind.u32 2227730452, Value.int IntKind.u32 2361852424, Value.int IntKind.u32 2428436474, Value.int IntKind.u32 2756734187, Value.int IntKind.u32 3204031479, Value.int IntKind.u32 3329325298]) (vs' := [Value.int IntKind.u32 1116352408, Value.int IntKind.u32 1899447441, Value.int IntKind.u32 3049323471, Value.int IntKind.u32 3921009573, Value.int IntKind.u32 961987163, Value.int IntKind.u32 1508970993, Value.int IntKind.u32 2453635748, Value.int IntKind.u32 2870763221, Value.int IntKind.u32 3624381080, Value.int IntKind.u32 310598401, Value.int IntKind.u32 607225278, Value.int IntKind.u32 1426881987, Value.int IntKind.u32 1925078388, Value.int IntKind.u32 2162078206, Value.int IntKind.u32 2614888103, Value.int IntKind.u32 3248222580, Value.int IntKind.u32 3835390401, Value.int IntKind.u32 4022224774, Value.int IntKind.u32 264347078, Value.int IntKind.u32 604807628, Value.int IntKind.u32 770255983, Value.int IntKind.u32 1249150122, Value.int IntKind.u32 1555081692, Value.int IntKind.u32 1996064986, Value.int IntKind.u32 2554220882, Value.int IntKind.u32 2821834349, Value.int IntKind.u32 2952996808, Value.int IntKind.u32 3210313671, Value.int IntKind.u32 3336571891, Value.int IntKind.u32 3584528711, Value.int IntKind.u32 113926993, Value.int IntKind.u32 338241895, Value.int IntKind.u32 666307205, Value.int IntKind.u32 773529912, Value.int IntKind.u32 1294757372, Value.int IntKind.u32 1396182291, Value.int IntKind.u32 1695183700, Value.int IntKind.u32 1986661051, Value.int IntKind.u32 2177026350, Value.int IntKind.u32 2456956037, Value.int IntKind.u32 2730485921, Value.int IntKind.u32 2820302411, Value.int IntKind.u32 3259730800, Value.int IntKind.u32 3345764771, Value.int IntKind.u32 3516065817, Value.int IntKind.u32 3600352804, Value.int IntKind.u32 4094571909, Value.int IntKind.u32 275423344, Value.int IntKind.u32 430227734, Value.int IntKind.u32 506948616, Value.int IntKind.u32 659060556, Value.int IntKind.u32 883997877, Value.int IntKind.u32 958139571, Value.int IntKind.u32 1322822218, Value.int IntKind.u32 1537002063, Value.int IntKind.u32 1747873779, Value.int IntKind.u32 1955562222, Value.int IntKind.u32 2024104815, Value.int IntKind.u32 2227730452, Value.int IntKind.u32 2361852424, Value.int IntKind.u32 2428436474, Value.int IntKind.u32 2756734187, Value.int IntKind.u32 3204031479, Value.int IntKind.u32 3329325298]) hs1 rfl (by kernel_rfl) (by kernel_rfl) (by kernel_rfl) fun w2 hs2 => ?_)
  simp only [List.set_cons_zero, List.set_cons_succ] at hs2
  clear hs1
  refine To.run 1 ?_
  refine To.retCell 0 0 (t := 40) (off := 0) (v := Value.agg #[Value.int IntKind.u32 1116352408, Value.int IntKind.u32 1899447441, Value.int IntKind.u32 3049323471, Value.int IntKind.u32 3921009573, Value.int IntKind.u32 961987163, Value.int IntKind.u32 1508970993, Value.int IntKind.u32 2453635748, Value.int IntKind.u32 2870763221, Value.int IntKind.u32 3624381080, Value.int IntKind.u32 310598401, Value.int IntKind.u32 607225278, Value.int IntKind.u32 1426881987, Value.int IntKind.u32 1925078388, Value.int IntKind.u32 2162078206, Value.int IntKind.u32 2614888103, Value.int IntKind.u32 3248222580, Value.int IntKind.u32 3835390401, Value.int IntKind.u32 4022224774, Value.int IntKind.u32 264347078, Value.int IntKind.u32 604807628, Value.int IntKind.u32 770255983, Value.int IntKind.u32 1249150122, Value.int IntKind.u32 1555081692, Value.int IntKind.u32 1996064986, Value.int IntKind.u32 2554220882, Value.int IntKind.u32 2821834349, Value.int IntKind.u32 2952996808, Value.int IntKind.u32 3210313671, Value.int IntKind.u32 3336571891, Value.int IntKind.u32 3584528711, Value.int IntKind.u32 113926993, Value.int IntKind.u32 338241895, Value.int IntKind.u32 666307205, Value.int IntKind.u32 773529912, Value.int IntKind.u32 1294757372, Value.int IntKind.u32 1396182291, Value.int IntKind.u32 1695183700, Value.int IntKind.u32 1986661051, Value.int IntKind.u32 2177026350, Value.int IntKind.u32 2456956037, Value.int IntKind.u32 2730485921, Value.int IntKind.u32 2820302411, Value.int IntKind.u32 3259730800, Value.int IntKind.u32 3345764771, Value.int IntKind.u32 3516065817, Value.int IntKind.u32 3600352804, Value.int IntKind.u32 4094571909, Value.int IntKind.u32 275423344, Value.int IntKind.u32 430227734, Value.int IntKind.u32 506948616, Value.int IntKind.u32 659060556, Value.int IntKind.u32 883997877, Value.int IntKind.u32 958139571, Value.int IntKind.u32 1322822218, Value.int IntKind.u32 1537002063, Value.int IntKind.u32 1747873779, Value.int IntKind.u32 1955562222, Value.int IntKind.u32 2024104815, Value.int IntKind.u32 2227730452, Value.int IntKind.u32 2361852424, Value.int IntKind.u32 2428436474, Value.int IntKind.u32 2756734187, Value.int IntKind.u32 3204031479, Value.int IntKind.u32 3329325298]) hs2 rfl Try.func23 (by kernel_rfl) (by kernel_rfl) (by kernel_rfl) (by kernel_rfl) ?_
  exact ⟨_, _, rfl, ⟨by kernel_rfl, rfl⟩, hs2.sub (List.sublist_cons_self _ _)⟩

theorem quo4 (k : Nat) (h : k ≤ 1000) : Value.int .i64 (IntKind.i64.wrap ((k : Int).tdiv 4)) = Value.int .i64 ((k / 4 : Nat) : Int) := by
  have e : (k : Int).tdiv 4 = ((k / 4 : Nat) : Int) := by rw [Int.tdiv_eq_ediv_of_nonneg (by omega)]; rfl
  rw [e, wrap_i64 (by omega) (by omega)]

theorem quo4' (k : Nat) : Value.int .i64 ((k : Int).tdiv 4) = Value.int .i64 ((k / 4 : Nat) : Int) := by
  have e : (k : Int).tdiv 4 = ((k / 4 : Nat) : Int) := by rw [Int.tdiv_eq_ediv_of_nonneg (by omega)]; rfl
  rw [e]

theorem Blk_fill (E : World) (Q : Ending → World → Prop) (L : List Res) (sb wb rb bb cap : Nat) (bs : List UInt8) (hb : bs.length = 64)
    (fin : ∀ (j : Nat → Value) (w : World), Sat E w (cel wb 40 ((fillP bs zeros64 0 64).map U) :: L) → To Try.prog 14 (Cfg.here Try.f14 14 j [(2, .pointer (some ⟨sb, 0, none⟩)), (4, .pointer (some ⟨rb, 0, none⟩)), (6, .pointer (some ⟨wb, 0, none⟩)), (9, .int .i64 16)]) w Q) :
    ∀ (m k : Nat) (ws : List (BitVec 32)) (j : Nat → Value) (w : World), k + m = 64 → ws.length = 64 → fillP bs ws k m = fillP bs zeros64 0 64 → Sat E w (bts bb (bs.map u8V) :: cel wb 40 (ws.map U) :: L) →
    To Try.prog 14 (Cfg.here Try.f14 7 j [(2, .pointer (some ⟨sb, 0, none⟩)), (4, .pointer (some ⟨rb, 0, none⟩)), (6, .pointer (some ⟨wb, 0, none⟩)), (31, .slice (some ⟨bb, 0, none⟩) 64 cap), (32, .int .i64 64), (33, .int .i64 k)]) w Q := by
  intro m
  induction m with
  | zero =>
    intro k ws j w hk hl hf hs
    obtain rfl : k = 64 := by omega
    rw [show ws = fillP bs zeros64 0 64 from hf] at hs
    refine To.run 13 ?_
    refine To.run 1 ?_
    refine To.at (fn := Try.f14) (n := 14) (l := [(2, Value.pointer (some { block := sb, off := 0 })), (4, Value.pointer (some { block := rb, off := 0 })), (6, Value.pointer (some { block := wb, off := 0 })), (9, Value.int IntKind.i64 16)]) (by kernel_rfl) fun j => ?_
    exact fin _ _ (hs.sub (List.sublist_cons_self _ _))
  | succ m ih =>
    intro k ws j w hk hl hf hs
    have hk64 : k < 64 := by omega
    have hbk : (bs.map u8V)[k]? = some (u8V (bs.getD k 0)) := by
      rw [List.getElem?_map, List.getElem?_eq_getElem (by omega), List.getD_eq_getElem?_getD, List.getElem?_eq_getElem (by omega)]
      rfl
    have hL := uLoad ws (k / 4) (by omega)
    have hS := uStore ws (k / 4) (by omega)
    have hq := quo4 k (by omega)
    clear fin
    refine To.run 5 ?_
    refine To.isTrue 34 (t := decide ((↑k : Int) < 64)) (by kernel_rfl) (by (simp; omega)) ?_
    refine To.run 7 ?_
    refine To.one (One.ixa (k) ((k)) (t := 28) (b := bb) (off := 0) (len := 64) (cap := cap) (e := 5) (sz := 1) (kd := IntKind.i64) (i := (↑k : Int)) (by kernel_rfl) (by kernel_rfl) (rfl) (by first | omega | (simp; done) | (simp; omega)) (by omega) ?_)
    refine To.one (One.loadBts 0 (k) (t := 5) (b := bb) (off := k) (u := u8V (bs.getD k 0)) hs rfl (by kernel_rfl) (by first | rfl | omega) (hbk) (by kernel_rfl) ?_)
    refine To.run 6 ?_
    refine To.known 39 (v := .int .i64 (IntKind.i64.wrap ((↑k : Int).tdiv 4))) (.int .i64 ((↑k : Int).tdiv 4)) (by kernel_rfl) (by rw [wrap_i64 (by (simp; omega)) (by (simp; omega))]) ?_
    refine To.run 2 ?_
    refine To.known 39 _ (by kernel_rfl) (quo4' k) ?_
    refine To.known 41 _ (by kernel_rfl) hq ?_
    clear hq
    refine To.one (One.ixaA (k / 4) ((k / 4)) (t := 40) (b := wb) (off := 0) (n := 64) (sz := 1) (kd := IntKind.i64) (i := (↑(k / 4) : Int)) (by kernel_rfl) (by kernel_rfl) (rfl) (by omega) (by omega) ?_)
    refine To.one (One.load 1 (t := 25) (off := k / 4) (v := Value.int IntKind.u32 (↑(ws.getD (k / 4) 0).toNat : Int)) hs rfl (by kernel_rfl) hL ?_)
    refine To.run 1 ?_
    refine To.known 44 _ (by kernel_rfl) (U_shl (ws.getD (k / 4) 0) (8) (8) rfl) ?_
    refine To.run 2 ?_
    refine To.known 46 _ (by kernel_rfl) (U_of8 (bs.getD k 0)) ?_
    refine To.run 1 ?_
    refine To.known 47 _ (by kernel_rfl) (U_or (ws.getD (k / 4) 0 <<< 8) (w8 (bs.getD k 0))) ?_
    refine To.one (One.ixaA (k / 4) ((k / 4)) (t := 40) (b := wb) (off := 0) (n := 64) (sz := 1) (kd := IntKind.i64) (i := (↑(k / 4) : Int)) (by kernel_rfl) (by kernel_rfl) (rfl) (by omega) (by omega) ?_)
    refine To.one (One.store 1 (t := 25) (off := k / 4) (v := Value.int IntKind.u32 (↑(ws.getD (k / 4) 0 <<< 8 ||| w8 (bs.getD k 0)).toNat : Int)) (vs' := List.map U (ws.set (k / 4) (ws.getD (k / 4) 0 <<< 8 ||| w8 (bs.getD k 0)))) hs rfl (by kernel_rfl) (hS _) (by kernel_rfl) fun w1 hs1 => ?_)
    simp only [List.set_cons_zero, List.set_cons_succ] at hs1
    clear hs
    refine To.run 4 ?_
    refine To.known 49 (v := .int .i64 (IntKind.i64.wrap ((↑k : Int) + 1))) (.int .i64 ((↑k : Int) + 1)) (by kernel_rfl) (by rw [wrap_i64 (by omega) (by omega)]) ?_
    refine To.run 2 ?_
    refine To.run 1 ?_
    refine To.at (fn := Try.f14) (n := 7) (l := [(2, Value.pointer (some { block := sb, off := 0 })), (4, Value.pointer (some { block := rb, off := 0 })), (6, Value.pointer (some { block := wb, off := 0 })), (31, Value.slice (some { block := bb, off := 0 }) 64 cap), (32, Value.int IntKind.i64 64), (33, Value.int IntKind.i64 ((↑k : Int) + 1))]) (by kernel_rfl) fun j => ?_
    exact ih (k + 1) _ _ _ (by omega) (by simp [hl]) hf hs1

theorem Blk_ext (E : World) (Q : Ending → World → Prop) (L : List Res) (sb wb rb : Nat) (W : List (BitVec 32))
    (fin : ∀ (j : Nat → Value) (w : World), Sat E w (cel wb 40 (W.map U) :: L) → To Try.prog 14 (Cfg.here Try.f14 14 j [(2, .pointer (some ⟨sb, 0, none⟩)), (4, .pointer (some ⟨rb, 0, none⟩)), (6, .pointer (some ⟨wb, 0, none⟩)), (9, .int .i64 64)]) w Q) :
    ∀ (m k : Nat) (ws : List (BitVec 32)) (j : Nat → Value) (w : World), k + m = 64 → 16 ≤ k → ws.length = 64 → extN ws k m = W → Sat E w (cel wb 40 (ws.map U) :: L) →
    To Try.prog 14 (Cfg.here Try.f14 14 j [(2, .pointer (some ⟨sb, 0, none⟩)), (4, .pointer (some ⟨rb, 0, none⟩)), (6, .pointer (some ⟨wb, 0, none⟩)), (9, .int .i64 k)]) w Q := by
  intro m
  induction m with
  | zero =>
    intro k ws j w hk hk16 hl he hs
    obtain rfl : k = 64 := by omega
    rw [show ws = W from he] at hs
    exact fin j w hs
  | succ m ih =>
    intro k ws j w hk hk16 hl he hs
    have hk64 : k < 64 := by omega
    have hL1 := uLoad ws (k - 15) (by omega)
    have hL2 := uLoad ws (k - 2) (by omega)
    have hL3 := uLoad ws (k - 7) (by omega)
    have hL4 := uLoad ws (k - 16) (by omega)
    have hS := uStore ws k (by omega)
    clear fin
    refine To.run 6 ?_
    refine To.isTrue 51 (t := decide ((↑k : Int) < 64)) (by kernel_rfl) (by (simp; omega)) ?_
    refine To.run 5 ?_
    refine To.draw [cel wb 40 (List.map U ws)] [] 10 hs (by kernel_rfl) (by kernel_rfl) (by kernel_rfl) fun w1 hs1 => ?_
    clear hs
    have hb1 := Sat.holds hs1 [0] rfl
    refine Reg.pures [0, 1] (fuel' := 8) (.inl hb1) rfl (by kernel_rfl) ?_
    refine Reg.known 55 (v := .int .i64 (IntKind.i64.wrap ((↑k : Int) - 15))) (.int .i64 ((↑k : Int) - 15)) (by kernel_rfl) (by rw [wrap_i64 (by omega) (by omega)]) ?_
    refine Reg.pures [4, 5] (fuel' := 6) (.inl hb1) rfl (by kernel_rfl) ?_
    refine Reg.known 59 (v := .int .i64 (IntKind.i64.wrap ((↑k : Int) - 2))) (.int .i64 ((↑k : Int) - 2)) (by kernel_rfl) (by rw [wrap_i64 (by omega) (by omega)]) ?_
    refine Reg.val 2 (.inl hb1) (by kernel_rfl) (by kernel_rfl) (fun w' => Val.ixaA (k - 15) ((k - 15)) (t := 40) (b := wb) (off := 0) (n := 64) (sz := 1) (kd := IntKind.i64) (i := (↑k : Int) - 15) (by kernel_rfl) (by kernel_rfl) (by omega) (by omega) (by omega)) ?_
    refine Reg.load 3 0 (t := 25) (off := k - 15) (v := Value.int IntKind.u32 (↑(ws.getD (k - 15) 0).toNat : Int)) (.inl hb1) rfl (by kernel_rfl) (by kernel_rfl) hL1 ?_
    refine Reg.pures [8] (fuel' := 3) (.inl hb1) rfl (by kernel_rfl) ?_
    refine Reg.step 6 (by kernel_rfl) (One.ixaA (k - 2) ((k - 2)) (t := 40) (b := wb) (off := 0) (n := 64) (sz := 1) (kd := IntKind.i64) (i := (↑k : Int) - 2) (by kernel_rfl) (by kernel_rfl) (by omega) (by omega) (by omega) ?_)
    have hb2 := Sat.holds hs1 [0] (B := [cel wb 40 (List.map U ws)]) rfl
    refine ⟨.inl hb2, ?_⟩
    refine Reg.step 7 (by kernel_rfl) (One.load 0 (t := 25) (off := k - 2) (v := Value.int IntKind.u32 (↑(ws.getD (k - 2) 0).toNat : Int)) hs1 rfl (by kernel_rfl) hL2 ?_)
    have hb3 := Sat.holds hs1 [0] (B := [cel wb 40 (List.map U ws)]) rfl
    refine ⟨.inl hb3, ?_⟩
    refine Reg.pures [9] (fuel' := 0) (.inl hb3) rfl (by kernel_rfl) ?_
    refine Reg.done (by kernel_rfl) ?_
    refine To.draw [cel wb 40 (List.map U ws)] [29] 30 hs1 (by kernel_rfl) (by kernel_rfl) (by kernel_rfl) fun w2 hs2 => ?_
    clear hs1
    have hb4 := Sat.holds hs2 [0] rfl
    refine Reg.pures [0, 1, 2] (fuel' := 27) (.inl hb4) rfl (by kernel_rfl) ?_
    refine Reg.known 64 (v := .int .i64 (IntKind.i64.wrap ((↑k : Int) - 16))) (.int .i64 ((↑k : Int) - 16)) (by kernel_rfl) (by rw [wrap_i64 (by omega) (by omega)]) ?_
    refine Reg.pures [5, 7, 10, 11] (fuel' := 23) (.inl hb4) rfl (by kernel_rfl) ?_
    refine Reg.known 73 _ (by kernel_rfl) (U_shr (ws.getD (k - 15) 0) (3) (3) rfl) ?_
    refine Reg.pures [14, 15] (fuel' := 21) (.inl hb4) rfl (by kernel_rfl) ?_
    refine Reg.known 77 (v := .int .i64 (IntKind.i64.wrap ((↑k : Int) - 7))) (.int .i64 ((↑k : Int) - 7)) (by kernel_rfl) (by rw [wrap_i64 (by omega) (by omega)]) ?_
    refine Reg.pures [19, 21, 24, 25] (fuel' := 17) (.inl hb4) rfl (by kernel_rfl) ?_
    refine Reg.known 87 _ (by kernel_rfl) (U_shr (ws.getD (k - 2) 0) (10) (10) rfl) ?_
    refine Reg.val 3 (.inl hb4) (by kernel_rfl) (by kernel_rfl) (fun w' => Val.ixaA (k - 16) ((k - 16)) (t := 40) (b := wb) (off := 0) (n := 64) (sz := 1) (kd := IntKind.i64) (i := (↑k : Int) - 16) (by kernel_rfl) (by kernel_rfl) (by omega) (by omega) (by omega)) ?_
    refine Reg.load 4 0 (t := 25) (off := k - 16) (v := Value.int IntKind.u32 (↑(ws.getD (k - 16) 0).toNat : Int)) (.inl hb4) rfl (by kernel_rfl) (by kernel_rfl) hL4 ?_
    refine Reg.val 16 (.inl hb4) (by kernel_rfl) (by kernel_rfl) (fun w' => Val.ixaA (k - 7) ((k - 7)) (t := 40) (b := wb) (off := 0) (n := 64) (sz := 1) (kd := IntKind.i64) (i := (↑k : Int) - 7) (by kernel_rfl) (by kernel_rfl) (by omega) (by omega) (by omega)) ?_
    refine Reg.load 17 0 (t := 25) (off := k - 7) (v := Value.int IntKind.u32 (↑(ws.getD (k - 7) 0).toNat : Int)) (.inl hb4) rfl (by kernel_rfl) (by kernel_rfl) hL3 ?_
    refine Reg.step 6 (by kernel_rfl) (One.call 1 [] [0] (g := 22) (args := [Value.int IntKind.u32 (↑(ws.getD (k - 15) 0).toNat : Int), Value.int IntKind.i64 7]) (by kernel_rfl) hs2 (right_7 (ws.getD (k - 15) 0)) (by decide) rfl ?_)
    rintro _ _ w3 ⟨rfl, rfl⟩ hs1
    simp only [pickAll, List.filterMap_cons, List.filterMap_nil, List.getElem?_cons_zero, List.getElem?_cons_succ, List.cons_append, List.nil_append, List.drop_succ_cons, List.drop_zero] at hs1
    clear hs2
    have hb5 := Sat.holds hs1 [0] (B := [cel wb 40 (List.map U ws)]) rfl
    refine ⟨.inl hb5, ?_⟩
    refine Reg.step 8 (by kernel_rfl) (One.call 1 [] [0] (g := 22) (args := [Value.int IntKind.u32 (↑(ws.getD (k - 15) 0).toNat : Int), Value.int IntKind.i64 18]) (by kernel_rfl) hs1 (right_18 (ws.getD (k - 15) 0)) (by decide) rfl ?_)
    rintro _ _ w4 ⟨rfl, rfl⟩ hs2
    simp only [pickAll, List.filterMap_cons, List.filterMap_nil, List.getElem?_cons_zero, List.getElem?_cons_succ, List.cons_append, List.nil_append, List.drop_succ_cons, List.drop_zero] at hs2
    clear hs1
    have hb6 := Sat.holds hs2 [0] (B := [cel wb 40 (List.map U ws)]) rfl
    refine ⟨.inl hb6, ?_⟩
    refine Reg.pures [9] (fuel' := 10) (.inl hb6) rfl (by kernel_rfl) ?_
    refine Reg.known 71 _ (by kernel_rfl) (U_xor (rr (ws.getD (k - 15) 0) 7) (rr (ws.getD (k - 15) 0) 18)) ?_
    refine Reg.pures [12] (fuel' := 9) (.inl hb6) rfl (by kernel_rfl) ?_
    refine Reg.known 74 _ (by kernel_rfl) (U_xor (rr (ws.getD (k - 15) 0) 7 ^^^ rr (ws.getD (k - 15) 0) 18) (ws.getD (k - 15) 0 >>> 3)) ?_
    refine Reg.pures [13] (fuel' := 8) (.inl hb6) rfl (by kernel_rfl) ?_
    refine Reg.known 75 _ (by kernel_rfl) (U_add (ws.getD (k - 16) 0) (rr (ws.getD (k - 15) 0) 7 ^^^ rr (ws.getD (k - 15) 0) 18 ^^^ ws.getD (k - 15) 0 >>> 3)) ?_
    refine Reg.pures [18] (fuel' := 7) (.inl hb6) rfl (by kernel_rfl) ?_
    refine Reg.known 80 _ (by kernel_rfl) (U_add (ws.getD (k - 16) 0 + (rr (ws.getD (k - 15) 0) 7 ^^^ rr (ws.getD (k - 15) 0) 18 ^^^ ws.getD (k - 15) 0 >>> 3)) (ws.getD (k - 7) 0)) ?_
    refine Reg.step 20 (by kernel_rfl) (One.call 1 [] [0] (g := 22) (args := [Value.int IntKind.u32 (↑(ws.getD (k - 2) 0).toNat : Int), Value.int IntKind.i64 17]) (by kernel_rfl) hs2 (right_17 (ws.getD (k - 2) 0)) (by decide) rfl ?_)
    rintro _ _ w5 ⟨rfl, rfl⟩ hs1
    simp only [pickAll, List.filterMap_cons, List.filterMap_nil, List.getElem?_cons_zero, List.getElem?_cons_succ, List.cons_append, List.nil_append, List.drop_succ_cons, List.drop_zero] at hs1
    clear hs2
    have hb7 := Sat.holds hs1 [0] (B := [cel wb 40 (List.map U ws)]) rfl
    refine ⟨.inl hb7, ?_⟩
    refine Reg.step 22 (by kernel_rfl) (One.call 1 [] [0] (g := 22) (args := [Value.int IntKind.u32 (↑(ws.getD (k - 2) 0).toNat : Int), Value.int IntKind.i64 19]) (by kernel_rfl) hs1 (right_19 (ws.getD (k - 2) 0)) (by decide) rfl ?_)
    rintro _ _ w6 ⟨rfl, rfl⟩ hs2
    simp only [pickAll, List.filterMap_cons, List.filterMap_nil, List.getElem?_cons_zero, List.getElem?_cons_succ, List.cons_append, List.nil_append, List.drop_succ_cons, List.drop_zero] at hs2
    clear hs1
    have hb8 := Sat.holds hs2 [0] (B := [cel wb 40 (List.map U ws)]) rfl
    refine ⟨.inl hb8, ?_⟩
    refine Reg.pures [23] (fuel' := 4) (.inl hb8) rfl (by kernel_rfl) ?_
    refine Reg.known 85 _ (by kernel_rfl) (U_xor (rr (ws.getD (k - 2) 0) 17) (rr (ws.getD (k - 2) 0) 19)) ?_
    refine Reg.pures [26] (fuel' := 3) (.inl hb8) rfl (by kernel_rfl) ?_
    refine Reg.known 88 _ (by kernel_rfl) (U_xor (rr (ws.getD (k - 2) 0) 17 ^^^ rr (ws.getD (k - 2) 0) 19) (ws.getD (k - 2) 0 >>> 10)) ?_
    refine Reg.pures [27] (fuel' := 2) (.inl hb8) rfl (by kernel_rfl) ?_
    refine Reg.known 89 _ (by kernel_rfl) (U_add (ws.getD (k - 16) 0 + (rr (ws.getD (k - 15) 0) 7 ^^^ rr (ws.getD (k - 15) 0) 18 ^^^ ws.getD (k - 15) 0 >>> 3) + ws.getD (k - 7) 0) (rr (ws.getD (k - 2) 0) 17 ^^^ rr (ws.getD (k - 2) 0) 19 ^^^ ws.getD (k - 2) 0 >>> 10)) ?_
    refine Reg.step 28 (by kernel_rfl) (One.ixaA (k) ((k)) (t := 40) (b := wb) (off := 0) (n := 64) (sz := 1) (kd := IntKind.i64) (i := (↑k : Int)) (by kernel_rfl) (by kernel_rfl) (rfl) (by omega) (by omega) ?_)
    have hb9 := Sat.holds hs2 [0] (B := [cel wb 40 (List.map U ws)]) rfl
    refine ⟨.inl hb9, ?_⟩
    refine Reg.step 29 (by kernel_rfl) (One.store 0 (t := 25) (off := k) (v := Value.int IntKind.u32 (↑(ws.getD (k - 16) 0 + (rr (ws.getD (k - 15) 0) 7 ^^^ rr (ws.getD (k - 15) 0) 18 ^^^ ws.getD (k - 15) 0 >>> 3) + ws.getD (k - 7) 0 + (rr (ws.getD (k - 2) 0) 17 ^^^ rr (ws.getD (k - 2) 0) 19 ^^^ ws.getD (k - 2) 0 >>> 10)).toNat : Int)) (vs' := List.map U (ws.set k (ws.getD (k - 16) 0 + (rr (ws.getD (k - 15) 0) 7 ^^^ rr (ws.getD (k - 15) 0) 18 ^^^ ws.getD (k - 15) 0 >>> 3) + ws.getD (k - 7) 0 + (rr (ws.getD (k - 2) 0) 17 ^^^ rr (ws.getD (k - 2) 0) 19 ^^^ ws.getD (k - 2) 0 >>> 10)))) hs2 rfl (by kernel_rfl) (hS _) (by kernel_rfl) fun w7 hs1 => ?_)
    simp only [List.set_cons_zero, List.set_cons_succ] at hs1
    clear hs2
    refine ⟨(.inr (by kernel_rfl)), ?_⟩
    refine Reg.done (by kernel_rfl) ?_
    refine To.run 4 ?_
    refine To.known 53 (v := .int .i64 (IntKind.i64.wrap ((↑k : Int) + 1))) (.int .i64 ((↑k : Int) + 1)) (by kernel_rfl) (by rw [wrap_i64 (by omega) (by omega)]) ?_
    refine To.run 2 ?_
    refine To.run 1 ?_
    refine To.at (fn := Try.f14) (n := 14) (l := [(2, Value.pointer (some { block := sb, off := 0 })), (4, Value.pointer (some { block := rb, off := 0 })), (6, Value.pointer (some { block := wb, off := 0 })), (9, Value.int IntKind.i64 ((↑k : Int) + 1))]) (by kernel_rfl) fun j => ?_
    exact ih (k + 1) (extW ws k) _ _ (by omega) (by omega) (by simp [extW, hl]) he hs1

theorem Blk_rounds (E : World) (Q : Ending → World → Prop) (L : List Res) (sb wb rb kb : Nat) (W : List (BitVec 32)) (hW : W.length = 64) (z : St8)
    (fin : ∀ (j : Nat → Value) (w : World), Sat E w (cel wb 40 (W.map U) :: cel kb 40 (K64.map U) :: L) →
      To Try.prog 14 (Cfg.here Try.f14 23 j [(2, .pointer (some ⟨sb, 0, none⟩)), (4, .pointer (some ⟨rb, 0, none⟩)), (6, .pointer (some ⟨wb, 0, none⟩)), (12, .pointer (some ⟨kb, 0, none⟩)), (13, U z.a), (14, U z.b), (15, U z.c), (16, U z.d), (17, U z.e), (18, U z.f), (19, U z.g), (20, U z.h), (108, .int .i64 64)]) w Q) :
    ∀ (m k : Nat) (s : St8) (j : Nat → Value) (w : World), k + m = 64 → rounds K64 W s k m = z → Sat E w (cel wb 40 (W.map U) :: cel kb 40 (K64.map U) :: L) →
    To Try.prog 14 (Cfg.here Try.f14 23 j [(2, .pointer (some ⟨sb, 0, none⟩)), (4, .pointer (some ⟨rb, 0, none⟩)), (6, .pointer (some ⟨wb, 0, none⟩)), (12, .pointer (some ⟨kb, 0, none⟩)), (13, U s.a), (14, U s.b), (15, U s.c), (16, U s.d), (17, U s.e), (18, U s.f), (19, U s.g), (20, U s.h), (108, .int .i64 k)]) w Q := by
  intro m
  induction m with
  | zero =>
    intro k s j w hk he hs
    obtain rfl : k = 64 := by omega
    rw [show s = z from he]
    exact fin j w hs
  | succ m ih =>
    intro k s j w hk he hs
    have hk64 : k < 64 := by omega
    have hL1 := uLoad W k (by omega)
    have hL2 := uLoad K64 k (by rw [K64_len]; omega)
    clear fin
    refine To.run 5 ?_
    refine To.isTrue 109 (t := decide ((↑k : Int) < 64)) (by kernel_rfl) (by (simp; omega)) ?_
    refine To.run 10 ?_
    refine To.draw [cel wb 40 (List.map U W), cel kb 40 (List.map U K64)] [] 28 hs (by kernel_rfl) (by kernel_rfl) (by kernel_rfl) fun w1 hs1 => ?_
    clear hs
    have hb1 := Sat.holds hs1 [0, 1] rfl
    refine Reg.pures [0, 1, 3, 6, 10, 11, 12] (fuel' := 21) (.inl hb1) rfl (by kernel_rfl) ?_
    refine Reg.known 123 _ (by kernel_rfl) (U_and (s.e) (s.f)) ?_
    refine Reg.pures [13, 14] (fuel' := 19) (.inl hb1) rfl (by kernel_rfl) ?_
    refine Reg.known 125 _ (by kernel_rfl) (U_not (s.e)) ?_
    refine Reg.pures [15, 16] (fuel' := 17) (.inl hb1) rfl (by kernel_rfl) ?_
    refine Reg.known 127 _ (by kernel_rfl) (U_and (~~~s.e) (s.g)) ?_
    refine Reg.pures [17] (fuel' := 16) (.inl hb1) rfl (by kernel_rfl) ?_
    refine Reg.known 128 _ (by kernel_rfl) (U_xor (s.e &&& s.f) (~~~s.e &&& s.g)) ?_
    refine Reg.pures [19, 23] (fuel' := 14) (.inl hb1) rfl (by kernel_rfl) ?_
    refine Reg.val 20 (.inl hb1) (by kernel_rfl) (by kernel_rfl) (fun w' => Val.ixaA (k) ((k)) (t := 40) (b := kb) (off := 0) (n := 64) (sz := 1) (kd := IntKind.i64) (i := (↑k : Int)) (by kernel_rfl) (by kernel_rfl) (rfl) (by omega) (by omega)) ?_
    refine Reg.load 21 1 (t := 25) (off := k) (v := Value.int IntKind.u32 (↑(K64.getD k 0).toNat : Int)) (.inl hb1) rfl (by kernel_rfl) (by kernel_rfl) hL2 ?_
    refine Reg.val 24 (.inl hb1) (by kernel_rfl) (by kernel_rfl) (fun w' => Val.ixaA (k) ((k)) (t := 40) (b := wb) (off := 0) (n := 64) (sz := 1) (kd := IntKind.i64) (i := (↑k : Int)) (by kernel_rfl) (by kernel_rfl) (rfl) (by omega) (by omega)) ?_
    refine Reg.load 25 0 (t := 25) (off := k) (v := Value.int IntKind.u32 (↑(W.getD k 0).toNat : Int)) (.inl hb1) rfl (by kernel_rfl) (by kernel_rfl) hL1 ?_
    refine Reg.step 2 (by kernel_rfl) (One.call 2 [] [0, 1] (g := 22) (args := [Value.int IntKind.u32 (↑s.e.toNat : Int), Value.int IntKind.i64 6]) (by kernel_rfl) hs1 (right_6 (s.e)) (by decide) rfl ?_)
    rintro _ _ w2 ⟨rfl, rfl⟩ hs2
    simp only [pickAll, List.filterMap_cons, List.filterMap_nil, List.getElem?_cons_zero, List.getElem?_cons_succ, List.cons_append, List.nil_append, List.drop_succ_cons, List.drop_zero] at hs2
    clear hs1
    have hb2 := Sat.holds hs2 [0, 1] (B := [cel wb 40 (List.map U W), cel kb 40 (List.map U K64)]) rfl
    refine ⟨.inl hb2, ?_⟩
    refine Reg.step 4 (by kernel_rfl) (One.call 2 [] [0, 1] (g := 22) (args := [Value.int IntKind.u32 (↑s.e.toNat : Int), Value.int IntKind.i64 11]) (by kernel_rfl) hs2 (right_11 (s.e)) (by decide) rfl ?_)
    rintro _ _ w3 ⟨rfl, rfl⟩ hs1
    simp only [pickAll, List.filterMap_cons, List.filterMap_nil, List.getElem?_cons_zero, List.getElem?_cons_succ, List.cons_append, List.nil_append, List.drop_succ_cons, List.drop_zero] at hs1
    clear hs2
    have hb3 := Sat.holds hs1 [0, 1] (B := [cel wb 40 (List.map U W), cel kb 40 (List.map U K64)]) rfl
    refine ⟨.inl hb3, ?_⟩
    refine Reg.pures [5] (fuel' := 7) (.inl hb3) rfl (by kernel_rfl) ?_
    refine Reg.known 116 _ (by kernel_rfl) (U_xor (rr s.e 6) (rr s.e 11)) ?_
    refine Reg.step 7 (by kernel_rfl) (One.call 2 [] [0, 1] (g := 22) (args := [Value.int IntKind.u32 (↑s.e.toNat : Int), Value.int IntKind.i64 25]) (by kernel_rfl) hs1 (right_25 (s.e)) (by decide) rfl ?_)
    rintro _ _ w4 ⟨rfl, rfl⟩ hs2
    simp only [pickAll, List.filterMap_cons, List.filterMap_nil, List.getElem?_cons_zero, List.getElem?_cons_succ, List.cons_append, List.nil_append, List.drop_succ_cons, List.drop_zero] at hs2
    clear hs1
    have hb4 := Sat.holds hs2 [0, 1] (B := [cel wb 40 (List.map U W), cel kb 40 (List.map U K64)]) rfl
    refine ⟨.inl hb4, ?_⟩
    refine Reg.pures [8] (fuel' := 5) (.inl hb4) rfl (by kernel_rfl) ?_
    refine Reg.known 119 _ (by kernel_rfl) (U_xor (rr s.e 6 ^^^ rr s.e 11) (rr s.e 25)) ?_
    refine Reg.pures [9] (fuel' := 4) (.inl hb4) rfl (by kernel_rfl) ?_
    refine Reg.known 120 _ (by kernel_rfl) (U_add (s.h) (rr s.e 6 ^^^ rr s.e 11 ^^^ rr s.e 25)) ?_
    refine Reg.pures [18] (fuel' := 3) (.inl hb4) rfl (by kernel_rfl) ?_
    refine Reg.known 129 _ (by kernel_rfl) (U_add (s.h + (rr s.e 6 ^^^ rr s.e 11 ^^^ rr s.e 25)) (s.e &&& s.f ^^^ ~~~s.e &&& s.g)) ?_
    refine Reg.pures [22] (fuel' := 2) (.inl hb4) rfl (by kernel_rfl) ?_
    refine Reg.known 133 _ (by kernel_rfl) (U_add (s.h + (rr s.e 6 ^^^ rr s.e 11 ^^^ rr s.e 25) + (s.e &&& s.f ^^^ ~~~s.e &&& s.g)) (K64.getD k 0)) ?_
    refine Reg.pures [26] (fuel' := 1) (.inl hb4) rfl (by kernel_rfl) ?_
    refine Reg.known 137 _ (by kernel_rfl) (U_add (s.h + (rr s.e 6 ^^^ rr s.e 11 ^^^ rr s.e 25) + (s.e &&& s.f ^^^ ~~~s.e &&& s.g) + K64.getD k 0) (W.getD k 0)) ?_
    refine Reg.pures [27] (fuel' := 0) (.inl hb4) rfl (by kernel_rfl) ?_
    refine Reg.done (by kernel_rfl) ?_
    refine To.run 3 ?_
    refine To.one (One.call 2 [] [0, 1] (g := 22) (args := [Value.int IntKind.u32 (↑s.a.toNat : Int), Value.int IntKind.i64 2]) (by kernel_rfl) hs2 (right_2 (s.a)) (by decide) rfl ?_)
    rintro _ _ w5 ⟨rfl, rfl⟩ hs1
    simp only [pickAll, List.filterMap_cons, List.filterMap_nil, List.getElem?_cons_zero, List.getElem?_cons_succ, List.cons_append, List.nil_append, List.drop_succ_cons, List.drop_zero] at hs1
    clear hs2
    refine To.run 1 ?_
    refine To.one (One.call 2 [] [0, 1] (g := 22) (args := [Value.int IntKind.u32 (↑s.a.toNat : Int), Value.int IntKind.i64 13]) (by kernel_rfl) hs1 (right_13 (s.a)) (by decide) rfl ?_)
    rintro _ _ w6 ⟨rfl, rfl⟩ hs2
    simp only [pickAll, List.filterMap_cons, List.filterMap_nil, List.getElem?_cons_zero, List.getElem?_cons_succ, List.cons_append, List.nil_append, List.drop_succ_cons, List.drop_zero] at hs2
    clear hs1
    refine To.run 1 ?_
    refine To.known 142 _ (by kernel_rfl) (U_xor (rr s.a 2) (rr s.a 13)) ?_
    refine To.run 1 ?_
    refine To.one (One.call 2 [] [0, 1] (g := 22) (args := [Value.int IntKind.u32 (↑s.a.toNat : Int), Value.int IntKind.i64 22]) (by kernel_rfl) hs2 (right_22 (s.a)) (by decide) rfl ?_)
    rintro _ _ w7 ⟨rfl, rfl⟩ hs1
    simp only [pickAll, List.filterMap_cons, List.filterMap_nil, List.getElem?_cons_zero, List.getElem?_cons_succ, List.cons_append, List.nil_append, List.drop_succ_cons, List.drop_zero] at hs1
    clear hs2
    refine To.run 1 ?_
    refine To.known 145 _ (by kernel_rfl) (U_xor (rr s.a 2 ^^^ rr s.a 13) (rr s.a 22)) ?_
    refine To.run 3 ?_
    refine To.known 148 _ (by kernel_rfl) (U_and (s.a) (s.b)) ?_
    refine To.run 3 ?_
    refine To.known 151 _ (by kernel_rfl) (U_and (s.a) (s.c)) ?_
    refine To.run 1 ?_
    refine To.known 152 _ (by kernel_rfl) (U_xor (s.a &&& s.b) (s.a &&& s.c)) ?_
    refine To.run 3 ?_
    refine To.known 155 _ (by kernel_rfl) (U_and (s.b) (s.c)) ?_
    refine To.run 1 ?_
    refine To.known 156 _ (by kernel_rfl) (U_xor (s.a &&& s.b ^^^ s.a &&& s.c) (s.b &&& s.c)) ?_
    refine To.run 1 ?_
    refine To.known 157 _ (by kernel_rfl) (U_add (rr s.a 2 ^^^ rr s.a 13 ^^^ rr s.a 22) (s.a &&& s.b ^^^ s.a &&& s.c ^^^ s.b &&& s.c)) ?_
    refine To.run 6 ?_
    refine To.known 160 _ (by kernel_rfl) (U_add (s.h + (rr s.e 6 ^^^ rr s.e 11 ^^^ rr s.e 25) + (s.e &&& s.f ^^^ ~~~s.e &&& s.g) + K64.getD k 0 + W.getD k 0) ((rr s.a 2 ^^^ rr s.a 13 ^^^ rr s.a 22) + (s.a &&& s.b ^^^ s.a &&& s.c ^^^ s.b &&& s.c))) ?_
    refine To.run 6 ?_
    refine To.known 166 _ (by kernel_rfl) (U_add (s.d) (s.h + (rr s.e 6 ^^^ rr s.e 11 ^^^ rr s.e 25) + (s.e &&& s.f ^^^ ~~~s.e &&& s.g) + K64.getD k 0 + W.getD k 0)) ?_
    refine To.run 15 ?_
    refine To.known 170 (v := .int .i64 (IntKind.i64.wrap ((↑k : Int) + 1))) (.int .i64 ((↑k : Int) + 1)) (by kernel_rfl) (by rw [wrap_i64 (by omega) (by omega)]) ?_
    refine To.run 2 ?_
    refine To.run 1 ?_
    refine To.at (fn := Try.f14) (n := 23) (l := [(2, Value.pointer (some { block := sb, off := 0 })), (4, Value.pointer (some { block := rb, off := 0 })), (6, Value.pointer (some { block := wb, off := 0 })), (12, Value.pointer (some { block := kb, off := 0 })), (13, Value.int IntKind.u32 (↑(s.h + (rr s.e 6 ^^^ rr s.e 11 ^^^ rr s.e 25) + (s.e &&& s.f ^^^ ~~~s.e &&& s.g) + K64.getD k 0 + W.getD k 0 + ((rr s.a 2 ^^^ rr s.a 13 ^^^ rr s.a 22) + (s.a &&& s.b ^^^ s.a &&& s.c ^^^ s.b &&& s.c))).toNat : Int)), (14, Value.int IntKind.u32 (↑s.a.toNat : Int)), (15, Value.int IntKind.u32 (↑s.b.toNat : Int)), (16, Value.int IntKind.u32 (↑s.c.toNat : Int)), (17, Value.int IntKind.u32 (↑(s.d + (s.h + (rr s.e 6 ^^^ rr s.e 11 ^^^ rr s.e 25) + (s.e &&& s.f ^^^ ~~~s.e &&& s.g) + K64.getD k 0 + W.getD k 0)).toNat : Int)), (18, Value.int IntKind.u32 (↑s.e.toNat : Int)), (19, Value.int IntKind.u32 (↑s.f.toNat : Int)), (20, Value.int IntKind.u32 (↑s.g.toNat : Int)), (108, Value.int IntKind.i64 ((↑k : Int) + 1))]) (by kernel_rfl) fun j => ?_
    exact ih (k + 1) (rnd s (K64.getD k 0) (W.getD k 0)) _ _ (by omega) he hs1

theorem Blk_last (E : World) (L : List Res) (sb wb rb kb : Nat) (W : List (BitVec 32)) (s z : St8) (j : Nat → Value) (w : World)
    (hs : Sat E w (cel wb 40 (W.map U) :: cel kb 40 (K64.map U) :: cel sb 26 (s.list.map U) :: cel rb 26 ((List.replicate 8 (0 : BitVec 32)).map U) :: L)) :
      To Try.prog 14 (Cfg.here Try.f14 23 j [(2, .pointer (some ⟨sb, 0, none⟩)), (4, .pointer (some ⟨rb, 0, none⟩)), (6, .pointer (some ⟨wb, 0, none⟩)), (12, .pointer (some ⟨kb, 0, none⟩)), (13, U z.a), (14, U z.b), (15, U z.c), (16, U z.d), (17, U z.e), (18, U z.f), (19, U z.g), (20, U z.h), (108, .int .i64 64)]) w
        (Fins E L (fun v l => v = .tuple #[aggU (s.add z).list, .bool true] ∧ l = [])) := by
  unfold St8.list at hs
  simp only [List.map_cons, List.map_nil] at hs
  refine To.run 22 ?_
  refine To.run 1 ?_
  refine To.at (fn := Try.f14) (n := 32) (l := [(2, Value.pointer (some { block := sb, off := 0 })), (4, Value.pointer (some { block := rb, off := 0 })), (179, Value.agg #[Value.int IntKind.u32 (↑z.a.toNat : Int), Value.int IntKind.u32 (↑z.b.toNat : Int), Value.int IntKind.u32 (↑z.c.toNat : Int), Value.int IntKind.u32 (↑z.d.toNat : Int), Value.int IntKind.u32 (↑z.e.toNat : Int), Value.int IntKind.u32 (↑z.f.toNat : Int), Value.int IntKind.u32 (↑z.g.toNat : Int), Value.int IntKind.u32 (↑z.h.toNat : Int)]), (180, Value.int IntKind.i64 0)]) (by kernel_rfl) fun j => ?_
  refine To.run 19 ?_
  refine To.one (One.load 2 (t := 25) (off := 0) (v := Value.int IntKind.u32 (↑s.a.toNat : Int)) hs rfl (by kernel_rfl) (by kernel_rfl) ?_)
  refine To.run 2 ?_
  refine To.known 188 _ (by kernel_rfl) (U_add (s.a) (z.a)) ?_
  refine To.run 1 ?_
  refine To.one (One.store 2 (t := 25) (off := 0) (v := Value.int IntKind.u32 (↑(s.a + z.a).toNat : Int)) (vs' := [Value.int IntKind.u32 (↑(s.a + z.a).toNat : Int), Value.int IntKind.u32 (↑s.b.toNat : Int), Value.int IntKind.u32 (↑s.c.toNat : Int), Value.int IntKind.u32 (↑s.d.toNat : Int), Value.int IntKind.u32 (↑s.e.toNat : Int), Value.int IntKind.u32 (↑s.f.toNat : Int), Value.int IntKind.u32 (↑s.g.toNat : Int), Value.int IntKind.u32 (↑s.h.toNat : Int)]) hs rfl (by kernel_rfl) (by kernel_rfl) (by kernel_rfl) fun w1 hs1 => ?_)
  simp only [List.set_cons_zero, List.set_cons_succ] at hs1
  clear hs
  refine To.run 6 ?_
  refine To.run 1 ?_
  refine To.at (fn := Try.f14) (n := 32) (l := [(2, Value.pointer (some { block := sb, off := 0 })), (4, Value.pointer (some { block := rb, off := 0 })), (179, Value.agg #[Value.int IntKind.u32 (↑z.a.toNat : Int), Value.int IntKind.u32 (↑z.b.toNat : Int), Value.int IntKind.u32 (↑z.c.toNat : Int), Value.int IntKind.u32 (↑z.d.toNat : Int), Value.int IntKind.u32 (↑z.e.toNat : Int), Value.int IntKind.u32 (↑z.f.toNat : Int), Value.int IntKind.u32 (↑z.g.toNat : Int), Value.int IntKind.u32 (↑z.h.toNat : Int)]), (180, Value.int IntKind.i64 1)]) (by kernel_rfl) fun j => ?_
  refine To.run 19 ?_
  refine To.one (One.load 2 (t := 25) (off := 1) (v := Value.int IntKind.u32 (↑s.b.toNat : Int)) hs1 rfl (by kernel_rfl) (by kernel_rfl) ?_)
  refine To.run 2 ?_
  refine To.known 188 _ (by kernel_rfl) (U_add (s.b) (z.b)) ?_
  refine To.run 1 ?_
  refine To.one (One.store 2 (t := 25) (off := 1) (v := Value.int IntKind.u32 (↑(s.b + z.b).toNat : Int)) (vs' := [Value.int IntKind.u32 (↑(s.a + z.a).toNat : Int), Value.int IntKind.u32 (↑(s.b + z.b).toNat : Int), Value.int IntKind.u32 (↑s.c.toNat : Int), Value.int IntKind.u32 (↑s.d.toNat : Int), Value.int IntKind.u32 (↑s.e.toNat : Int), Value.int IntKind.u32 (↑s.f.toNat : Int), Value.int IntKind.u32 (↑s.g.toNat : Int), Value.int IntKind.u32 (↑s.h.toNat : Int)]) hs1 rfl (by kernel_rfl) (by kernel_rfl) (by kernel_rfl) fun w2 hs2 => ?_)
  simp only [List.set_cons_zero, List.set_cons_succ] at hs2
  clear hs1
  refine To.run 6 ?_
  refine To.run 1 ?_
  refine To.at (fn := Try.f14) (n := 32) (l := [(2, Value.pointer (some { block := sb, off := 0 })), (4, Value.pointer (some { block := rb, off := 0 })), (179, Value.agg #[Value.int IntKind.u32 (↑z.a.toNat : Int), Value.int IntKind.u32 (↑z.b.toNat : Int), Value.int IntKind.u32 (↑z.c.toNat : Int), Value.int IntKind.u32 (↑z.d.toNat : Int), Value.int IntKind.u32 (↑z.e.toNat : Int), Value.int IntKind.u32 (↑z.f.toNat : Int), Value.int IntKind.u32 (↑z.g.toNat : Int), Value.int IntKind.u32 (↑z.h.toNat : Int)]), (180, Value.int IntKind.i64 2)]) (by kernel_rfl) fun j => ?_
  refine To.run 19 ?_
  refine To.one (One.load 2 (t := 25) (off := 2) (v := Value.int IntKind.u32 (↑s.c.toNat : Int)) hs2 rfl (by kernel_rfl) (by kernel_rfl) ?_)
  refine To.run 2 ?_
  refine To.known 188 _ (by kernel_rfl) (U_add (s.c) (z.c)) ?_
  refine To.run 1 ?_
  refine To.one (One.store 2 (t := 25) (off := 2) (v := Value.int IntKind.u32 (↑(s.c + z.c).toNat : Int)) (vs' := [Value.int IntKind.u32 (↑(s.a + z.a).toNat : Int), Value.int IntKind.u32 (↑(s.b + z.b).toNat : Int), Value.int IntKind.u32 (↑(s.c + z.c).toNat : Int), Value.int IntKind.u32 (↑s.d.toNat : Int), Value.int IntKind.u32 (↑s.e.toNat : Int), Value.int IntKind.u32 (↑s.f.toNat : Int), Value.int IntKind.u32 (↑s.g.toNat : Int), Value.int IntKind.u32 (↑s.h.toNat : Int)]) hs2 rfl (by kernel_rfl) (by kernel_rfl) (by kernel_rfl) fun w3 hs1 => ?_)
  simp only [List.set_cons_zero, List.set_cons_succ] at hs1
  clear hs2
  refine To.run 6 ?_
  refine To.run 1 ?_
  refine To.at (fn := Try.f14) (n := 32) (l := [(2, Value.pointer (some { block := sb, off := 0 })), (4, Value.pointer (some { block := rb, off := 0 })), (179, Value.agg #[Value.int IntKind.u32 (↑z.a.toNat : Int), Value.int IntKind.u32 (↑z.b.toNat : Int), Value.int IntKind.u32 (↑z.c.toNat : Int), Value.int IntKind.u32 (↑z.d.toNat : Int), Value.int IntKind.u32 (↑z.e.toNat : Int), Value.int IntKind.u32 (↑z.f.toNat : Int), Value.int IntKind.u32 (↑z.g.toNat : Int), Value.int IntKind.u32 (↑z.h.toNat : Int)]), (180, Value.int IntKind.i64 3)]) (by kernel_rfl) fun j => ?_
  refine To.run 19 ?_
  refine To.one (One.load 2 (t := 25) (off := 3) (v := Value.int IntKind.u32 (↑s.d.toNat : Int)) hs1 rfl (by kernel_rfl) (by kernel_rfl) ?_)
  refine To.run 2 ?_
  refine To.known 188 _ (by kernel_rfl) (U_add (s.d) (z.d)) ?_
  refine To.run 1 ?_
  refine To.one (One.store 2 (t := 25) (off := 3) (v := Value.int IntKind.u32 (↑(s.d + z.d).toNat : Int)) (vs' := [Value.int IntKind.u32 (↑(s.a + z.a).toNat : Int), Value.int IntKind.u32 (↑(s.b + z.b).toNat : Int), Value.int IntKind.u32 (↑(s.c + z.c).toNat : Int), Value.int IntKind.u32 (↑(s.d + z.d).toNat : Int), Value.int IntKind.u32 (↑s.e.toNat : Int), Value.int IntKind.u32 (↑s.f.toNat : Int), Value.int IntKind.u32 (↑s.g.toNat : Int), Value.int IntKind.u32 (↑s.h.toNat : Int)]) hs1 rfl (by kernel_rfl) (by kernel_rfl) (by kernel_rfl) fun w4 hs2 => ?_)
  simp only [List.set_cons_zero, List.set_cons_succ] at hs2
  clear hs1
  refine To.run 6 ?_
  refine To.run 1 ?_
  refine To.at (fn := Try.f14) (n := 32) (l := [(2, Value.pointer (some { block := sb, off := 0 })), (4, Value.pointer (some { block := rb, off := 0 })), (179, Value.agg #[Value.int IntKind.u32 (↑z.a.toNat : Int), Value.int IntKind.u32 (↑z.b.toNat : Int), Value.int IntKind.u32 (↑z.c.toNat : Int), Value.int IntKind.u32 (↑z.d.toNat : Int), Value.int IntKind.u32 (↑z.e.toNat : Int), Value.int IntKind.u32 (↑z.f.toNat : Int), Value.int IntKind.u32 (↑z.g.toNat : Int), Value.int IntKind.u32 (↑z.h.toNat : Int)]), (180, Value.int IntKind.i64 4)]) (by kernel_rfl) fun j => ?_
  refine To.run 19 ?_
  refine To.one (One.load 2 (t := 25) (off := 4) (v := Value.int IntKind.u32 (↑s.e.toNat : Int)) hs2 rfl (by kernel_rfl) (by kernel_rfl) ?_)
  refine To.run 2 ?_
  refine To.known 188 _ (by kernel_rfl) (U_add (s.e) (z.e)) ?_
  refine To.run 1 ?_
  refine To.one (One.store 2 (t := 25) (off := 4) (v := Value.int IntKind.u32 (↑(s.e + z.e).toNat : Int)) (vs' := [Value.int IntKind.u32 (↑(s.a + z.a).toNat : Int), Value.int IntKind.u32 (↑(s.b + z.b).toNat : Int), Value.int IntKind.u32 (↑(s.c + z.c).toNat : Int), Value.int IntKind.u32 (↑(s.d + z.d).toNat : Int), Value.int IntKind.u32 (↑(s.e + z.e).toNat : Int), Value.int IntKind.u32 (↑s.f.toNat : Int), Value.int IntKind.u32 (↑s.g.toNat : Int), Value.int IntKind.u32 (↑s.h.toNat : Int)]) hs2 rfl (by kernel_rfl) (by kernel_rfl) (by kernel_rfl) fun w5 hs1 => ?_)
  simp only [List.set_cons_zero, List.set_cons_succ] at hs1
  clear hs2
  refine To.run 6 ?_
  refine To.run 1 ?_
  refine To.at (fn := Try.f14) (n := 32) (l := [(2, Value.pointer (some { block := sb, off := 0 })), (4, Value.pointer (some { block := rb, off := 0 })), (179, Value.agg #[Value.int IntKind.u32 (↑z.a.toNat : Int), Value.int IntKind.u32 (↑z.b.toNat : Int), Value.int IntKind.u32 (↑z.c.toNat : Int), Value.int IntKind.u32 (↑z.d.toNat : Int), Value.int IntKind.u32 (↑z.e.toNat : Int), Value.int IntKind.u32 (↑z.f.toNat : Int), Value.int IntKind.u32 (↑z.g.toNat : Int), Value.int IntKind.u32 (↑z.h.toNat : Int)]), (180, Value.int IntKind.i64 5)]) (by kernel_rfl) fun j => ?_
  refine To.run 19 ?_
  refine To.one (One.load 2 (t := 25) (off := 5) (v := Value.int IntKind.u32 (↑s.f.toNat : Int)) hs1 rfl (by kernel_rfl) (by kernel_rfl) ?_)
  refine To.run 2 ?_
  refine To.known 188 _ (by kernel_rfl) (U_add (s.f) (z.f)) ?_
  refine To.run 1 ?_
  refine To.one (One.store 2 (t := 25) (off := 5) (v := Value.int IntKind.u32 (↑(s.f + z.f).toNat : Int)) (vs' := [Value.int IntKind.u32 (↑(s.a + z.a).toNat : Int), Value.int IntKind.u32 (↑(s.b + z.b).toNat : Int), Value.int IntKind.u32 (↑(s.c + z.c).toNat : Int), Value.int IntKind.u32 (↑(s.d + z.d).toNat : Int), Value.int IntKind.u32 (↑(s.e + z.e).toNat : Int), Value.int IntKind.u32 (↑(s.f + z.f).toNat : Int), Value.int IntKind.u32 (↑s.g.toNat : Int), Value.int IntKind.u32 (↑s.h.toNat : Int)]) hs1 rfl (by kernel_rfl) (by kernel_rfl) (by kernel_rfl) fun w6 hs2 => ?_)
  simp only [List.set_cons_zero, List.set_cons_succ] at hs2
  clear hs1
  refine To.run 6 ?_
  refine To.run 1 ?_
  refine To.at (fn := Try.f14) (n := 32) (l := [(2, Value.pointer (some { block := sb, off := 0 })), (4, Value.pointer (some { block := rb, off := 0 })), (179, Value.agg #[Value.int IntKind.u32 (↑z.a.toNat : Int), Value.int IntKind.u32 (↑z.b.toNat : Int), Value.int IntKind.u32 (↑z.c.toNat : Int), Value.int IntKind.u32 (↑z.d.toNat : Int), Value.int IntKind.u32 (↑z.e.toNat : Int), Value.int IntKind.u32 (↑z.f.toNat : Int), Value.int IntKind.u32 (↑z.g.toNat : Int), Value.int IntKind.u32 (↑z.h.toNat : Int)]), (180, Value.int IntKind.i64 6)]) (by kernel_rfl) fun j => ?_
  refine To.run 19 ?_
  refine To.one (One.load 2 (t := 25) (off := 6) (v := Value.int IntKind.u32 (↑s.g.toNat : Int)) hs2 rfl (by kernel_rfl) (by kernel_rfl) ?_)
  refine To.run 2 ?_
  refine To.known 188 _ (by kernel_rfl) (U_add (s.g) (z.g)) ?_
  refine To.run 1 ?_
  refine To.one (One.store 2 (t := 25) (off := 6) (v := Value.int IntKind.u32 (↑(s.g + z.g).toNat : Int)) (vs' := [Value.int IntKind.u32 (↑(s.a + z.a).toNat : Int), Value.int IntKind.u32 (↑(s.b + z.b).toNat : Int), Value.int IntKind.u32 (↑(s.c + z.c).toNat : Int), Value.int IntKind.u32 (↑(s.d + z.d).toNat : Int), Value.int IntKind.u32 (↑(s.e + z.e).toNat : Int), Value.int IntKind.u32 (↑(s.f + z.f).toNat : Int), Value.int IntKind.u32 (↑(s.g + z.g).toNat : Int), Value.int IntKind.u32 (↑s.h.toNat : Int)]) hs2 rfl (by kernel_rfl) (by kernel_rfl) (by kernel_rfl) fun w7 hs1 => ?_)
  simp only [List.set_cons_zero, List.set_cons_succ] at hs1
  clear hs2
  refine To.run 6 ?_
  refine To.run 1 ?_
  refine To.at (fn := Try.f14) (n := 32) (l := [(2, Value.pointer (some { block := sb, off := 0 })), (4, Value.pointer (some { block := rb, off := 0 })), (179, Value.agg #[Value.int IntKind.u32 (↑z.a.toNat : Int), Value.int IntKind.u32 (↑z.b.toNat : Int), Value.int IntKind.u32 (↑z.c.toNat : Int), Value.int IntKind.u32 (↑z.d.toNat : Int), Value.int IntKind.u32 (↑z.e.toNat : Int), Value.int IntKind.u32 (↑z.f.toNat : Int), Value.int IntKind.u32 (↑z.g.toNat : Int), Value.int IntKind.u32 (↑z.h.toNat : Int)]), (180, Value.int IntKind.i64 7)]) (by kernel_rfl) fun j => ?_
  refine To.run 19 ?_
  refine To.one (One.load 2 (t := 25) (off := 7) (v := Value.int IntKind.u32 (↑s.h.toNat : Int)) hs1 rfl (by kernel_rfl) (by kernel_rfl) ?_)
  refine To.run 2 ?_
  refine To.known 188 _ (by kernel_rfl) (U_add (s.h) (z.h)) ?_
  refine To.run 1 ?_
  refine To.one (One.store 2 (t := 25) (off := 7) (v := Value.int IntKind.u32 (↑(s.h + z.h).toNat : Int)) (vs' := [Value.int IntKind.u32 (↑(s.a + z.a).toNat : Int), Value.int IntKind.u32 (↑(s.b + z.b).toNat : Int), Value.int IntKind.u32 (↑(s.c + z.c).toNat : Int), Value.int IntKind.u32 (↑(s.d + z.d).toNat : Int), Value.int IntKind.u32 (↑(s.e + z.e).toNat : Int), Value.int IntKind.u32 (↑(s.f + z.f).toNat : Int), Value.int IntKind.u32 (↑(s.g + z.g).toNat : Int), Value.int IntKind.u32 (↑(s.h + z.h).toNat : Int)]) hs1 rfl (by kernel_rfl) (by kernel_rfl) (by kernel_rfl) fun w8 hs2 => ?_)
  simp only [List.set_cons_zero, List.set_cons_succ] at hs2
  clear hs1
  refine To.run 6 ?_
  refine To.run 1 ?_
  refine To.at (fn := Try.f14) (n := 32) (l := [(2, Value.pointer (some { block := sb, off := 0 })), (4, Value.pointer (some { block := rb, off := 0 })), (179, Value.agg #[Value.int IntKind.u32 (↑z.a.toNat : Int), Value.int IntKind.u32 (↑z.b.toNat : Int), Value.int IntKind.u32 (↑z.c.toNat : Int), Value.int IntKind.u32 (↑z.d.toNat : Int), Value.int IntKind.u32 (↑z.e.toNat : Int), Value.int IntKind.u32 (↑z.f.toNat : Int), Value.int IntKind.u32 (↑z.g.toNat : Int), Value.int IntKind.u32 (↑z.h.toNat : Int)]), (180, Value.int IntKind.i64 8)]) (by kernel_rfl) fun j => ?_
  refine To.run 9 ?_
  refine To.one (One.load 2 (t := 26) (off := 0) (v := Value.agg #[Value.int IntKind.u32 (↑(s.a + z.a).toNat : Int), Value.int IntKind.u32 (↑(s.b + z.b).toNat : Int), Value.int IntKind.u32 (↑(s.c + z.c).toNat : Int), Value.int IntKind.u32 (↑(s.d + z.d).toNat : Int), Value.int IntKind.u32 (↑(s.e + z.e).toNat : Int), Value.int IntKind.u32 (↑(s.f + z.f).toNat : Int), Value.int IntKind.u32 (↑(s.g + z.g).toNat : Int), Value.int IntKind.u32 (↑(s.h + z.h).toNat : Int)]) hs2 rfl (by kernel_rfl) (by kernel_rfl) ?_)
  refine To.one (One.store 3 (t := 26) (off := 0) (v := Value.agg #[Value.int IntKind.u32 (↑(s.a + z.a).toNat : Int), Value.int IntKind.u32 (↑(s.b + z.b).toNat : Int), Value.int IntKind.u32 (↑(s.c + z.c).toNat : Int), Value.int IntKind.u32 (↑(s.d + z.d).toNat : Int), Value.int IntKind.u32 (↑(s.e + z.e).toNat : Int), Value.int IntKind.u32 (↑(s.f + z.f).toNat : Int), Value.int IntKind.u32 (↑(s.g + z.g).toNat : Int), Value.int IntKind.u32 (↑(s.h + z.h).toNat : Int)]) (vs' := [Value.int IntKind.u32 (↑(s.a + z.a).toNat : Int), Value.int IntKind.u32 (↑(s.b + z.b).toNat : Int), Value.int IntKind.u32 (↑(s.c + z.c).toNat : Int), Value.int IntKind.u32 (↑(s.d + z.d).toNat : Int), Value.int IntKind.u32 (↑(s.e + z.e).toNat : Int), Value.int IntKind.u32 (↑(s.f + z.f).toNat : Int), Value.int IntKind.u32 (↑(s.g + z.g).toNat : Int), Value.int IntKind.u32 (↑(s.h + z.h).toNat : Int)]) hs2 rfl (by kernel_rfl) (by kernel_rfl) (by kernel_rfl) fun w9 hs1 => ?_)
  simp only [List.set_cons_zero, List.set_cons_succ] at hs1
  clear hs2
  refine To.run 2 ?_
  refine To.retCell2 3 4 5 (t := 26) (off := 0) (v := Value.agg #[Value.int IntKind.u32 (↑(s.a + z.a).toNat : Int), Value.int IntKind.u32 (↑(s.b + z.b).toNat : Int), Value.int IntKind.u32 (↑(s.c + z.c).toNat : Int), Value.int IntKind.u32 (↑(s.d + z.d).toNat : Int), Value.int IntKind.u32 (↑(s.e + z.e).toNat : Int), Value.int IntKind.u32 (↑(s.f + z.f).toNat : Int), Value.int IntKind.u32 (↑(s.g + z.g).toNat : Int), Value.int IntKind.u32 (↑(s.h + z.h).toNat : Int)]) (u := Value.bool true) hs1 rfl Try.func14 (by kernel_rfl) (by kernel_rfl) (by kernel_rfl) (by kernel_rfl) (by kernel_rfl) ?_
  exact ⟨_, _, rfl, ⟨rfl, rfl⟩, hs1.sub ((((List.sublist_cons_self _ _).cons _).cons _).cons _)⟩

theorem Blk_mid (E : World) (L : List Res) (sb wb rb : Nat) (W : List (BitVec 32)) (hW : W.length = 64) (s : St8) (j : Nat → Value) (w : World)
    (hs : Sat E w (cel wb 40 (W.map U) :: cel rb 26 ((List.replicate 8 (0 : BitVec 32)).map U) :: cel sb 26 (s.list.map U) :: L)) :
    To Try.prog 14 (Cfg.here Try.f14 14 j [(2, .pointer (some ⟨sb, 0, none⟩)), (4, .pointer (some ⟨rb, 0, none⟩)), (6, .pointer (some ⟨wb, 0, none⟩)), (9, .int .i64 64)]) w
        (Fins E L (fun v l => v = .tuple #[aggU (s.add (rounds K64 W s 0 64)).list, .bool true] ∧ l = [])) := by
  unfold St8.list at hs
  simp only [List.map_cons, List.map_nil] at hs
  refine To.run 10 ?_
  refine To.one (One.call 3 [] [0, 1, 2] (g := 23) (args := []) (by kernel_rfl) hs (keys_ok) (by decide) rfl ?_)
  rintro _ _ w1 ⟨rfl, rfl⟩ hs1
  simp only [pickAll, List.filterMap_cons, List.filterMap_nil, List.getElem?_cons_zero, List.getElem?_cons_succ, List.cons_append, List.nil_append, List.drop_succ_cons, List.drop_zero] at hs1
  clear hs
  refine To.one (One.alloc (t := 40) [Value.int IntKind.u32 0, Value.int IntKind.u32 0, Value.int IntKind.u32 0, Value.int IntKind.u32 0, Value.int IntKind.u32 0, Value.int IntKind.u32 0, Value.int IntKind.u32 0, Value.int IntKind.u32 0, Value.int IntKind.u32 0, Value.int IntKind.u32 0, Value.int IntKind.u32 0, Value.int IntKind.u32 0, Value.int IntKind.u32 0, Value.int IntKind.u32 0, Value.int IntKind.u32 0, Value.int IntKind.u32 0, Value.int IntKind.u32 0, Value.int IntKind.u32 0, Value.int IntKind.u32 0, Value.int IntKind.u32 0, Value.int IntKind.u32 0, Value.int IntKind.u32 0, Value.int IntKind.u32 0, Value.int IntKind.u32 0, Value.int IntKind.u32 0, Value.int IntKind.u32 0, Value.int IntKind.u32 0, Value.int IntKind.u32 0, Value.int IntKind.u32 0, Value.int IntKind.u32 0, Value.int IntKind.u32 0, Value.int IntKind.u32 0, Value.int IntKind.u32 0, Value.int IntKind.u32 0, Value.int IntKind.u32 0, Value.int IntKind.u32 0, Value.int IntKind.u32 0, Value.int IntKind.u32 0, Value.int IntKind.u32 0, Value.int IntKind.u32 0, Value.int IntKind.u32 0, Value.int IntKind.u32 0, Value.int IntKind.u32 0, Value.int IntKind.u32 0, Value.int IntKind.u32 0, Value.int IntKind.u32 0, Value.int IntKind.u32 0, Value.int IntKind.u32 0, Value.int IntKind.u32 0, Value.int IntKind.u32 0, Value.int IntKind.u32 0, Value.int IntKind.u32 0, Value.int IntKind.u32 0, Value.int IntKind.u32 0, Value.int IntKind.u32 0, Value.int IntKind.u32 0, Value.int IntKind.u32 0, Value.int IntKind.u32 0, Value.int IntKind.u32 0, Value.int IntKind.u32 0, Value.int IntKind.u32 0, Value.int IntKind.u32 0, Value.int IntKind.u32 0, Value.int IntKind.u32 0] hs1 (by kernel_rfl) (by kernel_rfl) fun b1 w2 hs2 => ?_)
  clear hs1
  refine To.one (One.store 0 (t := 40) (off := 0) (v := Value.agg #[Value.int IntKind.u32 1116352408, Value.int IntKind.u32 1899447441, Value.int IntKind.u32 3049323471, Value.int IntKind.u32 3921009573, Value.int IntKind.u32 961987163, Value.int IntKind.u32 1508970993, Value.int IntKind.u32 2453635748, Value.int IntKind.u32 2870763221, Value.int IntKind.u32 3624381080, Value.int IntKind.u32 310598401, Value.int IntKind.u32 607225278, Value.int IntKind.u32 1426881987, Value.int IntKind.u32 1925078388, Value.int IntKind.u32 2162078206, Value.int IntKind.u32 2614888103, Value.int IntKind.u32 3248222580, Value.int IntKind.u32 3835390401, Value.int IntKind.u32 4022224774, Value.int IntKind.u32 264347078, Value.int IntKind.u32 604807628, Value.int IntKind.u32 770255983, Value.int IntKind.u32 1249150122, Value.int IntKind.u32 1555081692, Value.int IntKind.u32 1996064986, Value.int IntKind.u32 2554220882, Value.int IntKind.u32 2821834349, Value.int IntKind.u32 2952996808, Value.int IntKind.u32 3210313671, Value.int IntKind.u32 3336571891, Value.int IntKind.u32 3584528711, Value.int IntKind.u32 113926993, Value.int IntKind.u32 338241895, Value.int IntKind.u32 666307205, Value.int IntKind.u32 773529912, Value.int IntKind.u32 1294757372, Value.int IntKind.u32 1396182291, Value.int IntKind.u32 1695183700, Value.int IntKind.u32 1986661051, Value.int IntKind.u32 2177026350, Value.int IntKind.u32 2456956037, Value.int IntKind.u32 2730485921, Value.int IntKind.u32 2820302411, Value.int IntKind.u32 3259730800, Value.int IntKind.u32 3345764771, Value.int IntKind.u32 3516065817, Value.int IntKind.u32 3600352804, Value.int IntKind.u32 4094571909, Value.int IntKind.u32 275423344, Value.int IntKind.u32 430227734, Value.int IntKind.u32 506948616, Value.int IntKind.u32 659060556, Value.int IntKind.u32 883997877, Value.int IntKind.u32 958139571, Value.int IntKind.u32 1322822218, Value.int IntKind.u32 1537002063, Value.int IntKind.u32 1747873779, Value.int IntKind.u32 1955562222, Value.int IntKind.u32 2024104815, Value.int IntKind.u32 2227730452, Value.int IntKind.u32 2361852424, Value.int IntKind.u32 2428436474, Value.int IntKind.u32 2756734187, Value.int IntKind.u32 3204031479, Value.int IntKind.u32 3329325298]) (vs' := [Value.int IntKind.u32 1116352408, Value.int IntKind.u32 1899447441, Value.int IntKind.u32 3049323471, Value.int IntKind.u32 3921009573, Value.int IntKind.u32 961987163, Value.int IntKind.u32 1508970993, Value.int IntKind.u32 2453635748, Value.int IntKind.u32 2870763221, Value.int IntKind.u32 3624381080, Value.int IntKind.u32 310598401, Value.int IntKind.u32 607225278, Value.int IntKind.u32 1426881987, Value.int IntKind.u32 1925078388, Value.int IntKind.u32 2162078206, Value.int IntKind.u32 2614888103, Value.int IntKind.u32 3248222580, Value.int IntKind.u32 3835390401, Value.int IntKind.u32 4022224774, Value.int IntKind.u32 264347078, Value.int IntKind.u32 604807628, Value.int IntKind.u32 770255983, Value.int IntKind.u32 1249150122, Value.int IntKind.u32 1555081692, Value.int IntKind.u32 1996064986, Value.int IntKind.u32 2554220882, Value.int IntKind.u32 2821834349, Value.int IntKind.u32 2952996808, Value.int IntKind.u32 3210313671, Value.int IntKind.u32 3336571891, Value.int IntKind.u32 3584528711, Value.int IntKind.u32 113926993, Value.int IntKind.u32 338241895, Value.int IntKind.u32 666307205, Value.int IntKind.u32 773529912, Value.int IntKind.u32 1294757372, Value.int IntKind.u32 1396182291, Value.int IntKind.u32 1695183700, Value.int IntKind.u32 1986661051, Value.int IntKind.u32 2177026350, Value.int IntKind.u32 2456956037, Value.int IntKind.u32 2730485921, Value.int IntKind.u32 2820302411, Value.int IntKind.u32 3259730800, Value.int IntKind.u32 3345764771, Value.int IntKind.u32 3516065817, Value.int IntKind.u32 3600352804, Value.int IntKind.u32 4094571909, Value.int IntKind.u32 275423344, Value.int IntKind.u32 430227734, Value.int IntKind.u32 506948616, Value.int IntKind.u32 659060556, Value.int IntKind.u32 883997877, Value.int IntKind.u32 958139571, Value.int IntKind.u32 1322822218, Value.int IntKind.u32 1537002063, Value.int IntKind.u32 1747873779, Value.int IntKind.u32 1955562222, Value.int IntKind.u32 2024104815, Value.int IntKind.u32 2227730452, Value.int IntKind.u32 2361852424, Value.int IntKind.u32 2428436474, Value.int IntKind.u32 2756734187, Value.int IntKind.u32 3204031479, Value.int IntKind.u32 3329325298]) hs2 rfl (by kernel_rfl) (by kernel_rfl) (by kernel_rfl) fun w3 hs1 => ?_)
  simp only [List.set_cons_zero, List.set_cons_succ] at hs1
  clear hs2
  refine To.run 2 ?_
  refine To.draw [cel b1 40 [Value.int IntKind.u32 1116352408, Value.int IntKind.u32 1899447441, Value.int IntKind.u32 3049323471, Value.int IntKind.u32 3921009573, Value.int IntKind.u32 961987163, Value.int IntKind.u32 1508970993, Value.int IntKind.u32 2453635748, Value.int IntKind.u32 2870763221, Value.int IntKind.u32 3624381080, Value.int IntKind.u32 310598401, Value.int IntKind.u32 607225278, Value.int IntKind.u32 1426881987, Value.int IntKind.u32 1925078388, Value.int IntKind.u32 2162078206, Value.int IntKind.u32 2614888103, Value.int IntKind.u32 3248222580, Value.int IntKind.u32 3835390401, Value.int IntKind.u32 4022224774, Value.int IntKind.u32 264347078, Value.int IntKind.u32 604807628, Value.int IntKind.u32 770255983, Value.int IntKind.u32 1249150122, Value.int IntKind.u32 1555081692, Value.int IntKind.u32 1996064986, Value.int IntKind.u32 2554220882, Value.int IntKind.u32 2821834349, Value.int IntKind.u32 2952996808, Value.int IntKind.u32 3210313671, Value.int IntKind.u32 3336571891, Value.int IntKind.u32 3584528711, Value.int IntKind.u32 113926993, Value.int IntKind.u32 338241895, Value.int IntKind.u32 666307205, Value.int IntKind.u32 773529912, Value.int IntKind.u32 1294757372, Value.int IntKind.u32 1396182291, Value.int IntKind.u32 1695183700, Value.int IntKind.u32 1986661051, Value.int IntKind.u32 2177026350, Value.int IntKind.u32 2456956037, Value.int IntKind.u32 2730485921, Value.int IntKind.u32 2820302411, Value.int IntKind.u32 3259730800, Value.int IntKind.u32 3345764771, Value.int IntKind.u32 3516065817, Value.int IntKind.u32 3600352804, Value.int IntKind.u32 4094571909, Value.int IntKind.u32 275423344, Value.int IntKind.u32 430227734, Value.int IntKind.u32 506948616, Value.int IntKind.u32 659060556, Value.int IntKind.u32 883997877, Value.int IntKind.u32 958139571, Value.int IntKind.u32 1322822218, Value.int IntKind.u32 1537002063, Value.int IntKind.u32 1747873779, Value.int IntKind.u32 1955562222, Value.int IntKind.u32 2024104815, Value.int IntKind.u32 2227730452, Value.int IntKind.u32 2361852424, Value.int IntKind.u32 2428436474, Value.int IntKind.u32 2756734187, Value.int IntKind.u32 3204031479, Value.int IntKind.u32 3329325298], cel wb 40 (List.map U W), cel rb 26 (List.map U (List.replicate 8 0)), cel sb 26 [U s.a, U s.b, U s.c, U s.d, U s.e, U s.f, U s.g, U s.h]] [] 24 hs1 (by kernel_rfl) (by kernel_rfl) (by kernel_rfl) fun w4 hs2 => ?_
  clear hs1
  have hb1 := Sat.holds hs2 [0, 1, 2, 3] rfl
  refine Reg.pures [0, 2, 4, 6, 8, 10, 12, 14] (fuel' := 16) (.inl hb1) rfl (by kernel_rfl) ?_
  refine Reg.load 1 3 (t := 25) (off := 0) (v := Value.int IntKind.u32 (↑s.a.toNat : Int)) (.inl hb1) rfl (by kernel_rfl) (by kernel_rfl) (by kernel_rfl) ?_
  refine Reg.pures [16] (fuel' := 14) (.inl hb1) rfl (by kernel_rfl) ?_
  refine Reg.load 3 3 (t := 25) (off := 1) (v := Value.int IntKind.u32 (↑s.b.toNat : Int)) (.inl hb1) rfl (by kernel_rfl) (by kernel_rfl) (by kernel_rfl) ?_
  refine Reg.pures [17] (fuel' := 12) (.inl hb1) rfl (by kernel_rfl) ?_
  refine Reg.load 5 3 (t := 25) (off := 2) (v := Value.int IntKind.u32 (↑s.c.toNat : Int)) (.inl hb1) rfl (by kernel_rfl) (by kernel_rfl) (by kernel_rfl) ?_
  refine Reg.pures [18] (fuel' := 10) (.inl hb1) rfl (by kernel_rfl) ?_
  refine Reg.load 7 3 (t := 25) (off := 3) (v := Value.int IntKind.u32 (↑s.d.toNat : Int)) (.inl hb1) rfl (by kernel_rfl) (by kernel_rfl) (by kernel_rfl) ?_
  refine Reg.pures [19] (fuel' := 8) (.inl hb1) rfl (by kernel_rfl) ?_
  refine Reg.load 9 3 (t := 25) (off := 4) (v := Value.int IntKind.u32 (↑s.e.toNat : Int)) (.inl hb1) rfl (by kernel_rfl) (by kernel_rfl) (by kernel_rfl) ?_
  refine Reg.pures [20] (fuel' := 6) (.inl hb1) rfl (by kernel_rfl) ?_
  refine Reg.load 11 3 (t := 25) (off := 5) (v := Value.int IntKind.u32 (↑s.f.toNat : Int)) (.inl hb1) rfl (by kernel_rfl) (by kernel_rfl) (by kernel_rfl) ?_
  refine Reg.pures [21] (fuel' := 4) (.inl hb1) rfl (by kernel_rfl) ?_
  refine Reg.load 13 3 (t := 25) (off := 6) (v := Value.int IntKind.u32 (↑s.g.toNat : Int)) (.inl hb1) rfl (by kernel_rfl) (by kernel_rfl) (by kernel_rfl) ?_
  refine Reg.pures [22] (fuel' := 2) (.inl hb1) rfl (by kernel_rfl) ?_
  refine Reg.step 15 (by kernel_rfl) (One.load 3 (t := 25) (off := 7) (v := Value.int IntKind.u32 (↑s.h.toNat : Int)) hs2 rfl (by kernel_rfl) (by kernel_rfl) ?_)
  have hb2 := Sat.holds hs2 [0, 1, 2, 3] (B := [cel b1 40 [Value.int IntKind.u32 1116352408, Value.int IntKind.u32 1899447441, Value.int IntKind.u32 3049323471, Value.int IntKind.u32 3921009573, Value.int IntKind.u32 961987163, Value.int IntKind.u32 1508970993, Value.int IntKind.u32 2453635748, Value.int IntKind.u32 2870763221, Value.int IntKind.u32 3624381080, Value.int IntKind.u32 310598401, Value.int IntKind.u32 607225278, Value.int IntKind.u32 1426881987, Value.int IntKind.u32 1925078388, Value.int IntKind.u32 2162078206, Value.int IntKind.u32 2614888103, Value.int IntKind.u32 3248222580, Value.int IntKind.u32 3835390401, Value.int IntKind.u32 4022224774, Value.int IntKind.u32 264347078, Value.int IntKind.u32 604807628, Value.int IntKind.u32 770255983, Value.int IntKind.u32 1249150122, Value.int IntKind.u32 1555081692, Value.int IntKind.u32 1996064986, Value.int IntKind.u32 2554220882, Value.int IntKind.u32 2821834349, Value.int IntKind.u32 2952996808, Value.int IntKind.u32 3210313671, Value.int IntKind.u32 3336571891, Value.int IntKind.u32 3584528711, Value.int IntKind.u32 113926993, Value.int IntKind.u32 338241895, Value.int IntKind.u32 666307205, Value.int IntKind.u32 773529912, Value.int IntKind.u32 1294757372, Value.int IntKind.u32 1396182291, Value.int IntKind.u32 1695183700, Value.int IntKind.u32 1986661051, Value.int IntKind.u32 2177026350, Value.int IntKind.u32 2456956037, Value.int IntKind.u32 2730485921, Value.int IntKind.u32 2820302411, Value.int IntKind.u32 3259730800, Value.int IntKind.u32 3345764771, Value.int IntKind.u32 3516065817, Value.int IntKind.u32 3600352804, Value.int IntKind.u32 4094571909, Value.int IntKind.u32 275423344, Value.int IntKind.u32 430227734, Value.int IntKind.u32 506948616, Value.int IntKind.u32 659060556, Value.int IntKind.u32 883997877, Value.int IntKind.u32 958139571, Value.int IntKind.u32 1322822218, Value.int IntKind.u32 1537002063, Value.int IntKind.u32 1747873779, Value.int IntKind.u32 1955562222, Value.int IntKind.u32 2024104815, Value.int IntKind.u32 2227730452, Value.int IntKind.u32 2361852424, Value.int IntKind.u32 2428436474, Value.int IntKind.u32 2756734187, Value.int IntKind.u32 3204031479, Value.int IntKind.u32 3329325298], cel wb 40 (List.map U W), cel rb 26 (List.map U (List.replicate 8 0)), cel sb 26 [U s.a, U s.b, U s.c, U s.d, U s.e, U s.f, U s.g, U s.h]]) rfl
  refine ⟨.inl hb2, ?_⟩
  refine Reg.pures [23] (fuel' := 0) (.inl hb2) rfl (by kernel_rfl) ?_
  refine Reg.done (by kernel_rfl) ?_
  refine To.run 6 ?_
  refine To.run 1 ?_
  refine To.at (fn := Try.f14) (n := 23) (l := [(2, Value.pointer (some { block := sb, off := 0 })), (4, Value.pointer (some { block := rb, off := 0 })), (6, Value.pointer (some { block := wb, off := 0 })), (12, Value.pointer (some { block := b1, off := 0 })), (13, Value.int IntKind.u32 (↑s.a.toNat : Int)), (14, Value.int IntKind.u32 (↑s.b.toNat : Int)), (15, Value.int IntKind.u32 (↑s.c.toNat : Int)), (16, Value.int IntKind.u32 (↑s.d.toNat : Int)), (17, Value.int IntKind.u32 (↑s.e.toNat : Int)), (18, Value.int IntKind.u32 (↑s.f.toNat : Int)), (19, Value.int IntKind.u32 (↑s.g.toNat : Int)), (20, Value.int IntKind.u32 (↑s.h.toNat : Int)), (108, Value.int IntKind.i64 0)]) (by kernel_rfl) fun j => ?_
  have hs9 : Sat E _ (cel wb 40 (W.map U) :: cel b1 40 (K64.map U) :: cel sb 26 (s.list.map U) :: cel rb 26 ((List.replicate 8 (0 : BitVec 32)).map U) :: L) := hs2.selDrop 4 [1, 0, 3, 2] (by decide) (by decide)
  exact Blk_rounds E _ _ sb wb rb b1 W hW (rounds K64 W s 0 64) (fun j w hs => Blk_last E L sb wb rb b1 W s _ j w hs) 64 0 s _ _ rfl rfl hs9

theorem Block_ok (s : St8) (b : ByteArray) (hb : b.size = 64) : Trip Try.prog 14 [aggU s.list, .string b] [] (fun v l => v = .tuple #[aggU (blockS s b.data.toList).list, .bool true] ∧ l = []) := by
  refine Trip.of Try.func14 (by kernel_rfl) fun E w L hs => ?_
  simp only [List.nil_append] at hs
  refine To.run 2 ?_
  refine To.one (One.box (t := 26) (v := Value.agg #[Value.int IntKind.u32 (↑s.a.toNat : Int), Value.int IntKind.u32 (↑s.b.toNat : Int), Value.int IntKind.u32 (↑s.c.toNat : Int), Value.int IntKind.u32 (↑s.d.toNat : Int), Value.int IntKind.u32 (↑s.e.toNat : Int), Value.int IntKind.u32 (↑s.f.toNat : Int), Value.int IntKind.u32 (↑s.g.toNat : Int), Value.int IntKind.u32 (↑s.h.toNat : Int)]) [Value.int IntKind.u32 (↑s.a.toNat : Int), Value.int IntKind.u32 (↑s.b.toNat : Int), Value.int IntKind.u32 (↑s.c.toNat : Int), Value.int IntKind.u32 (↑s.d.toNat : Int), Value.int IntKind.u32 (↑s.e.toNat : Int), Value.int IntKind.u32 (↑s.f.toNat : Int), Value.int IntKind.u32 (↑s.g.toNat : Int), Value.int IntKind.u32 (↑s.h.toNat : Int)] hs (by kernel_rfl) (by kernel_rfl) fun b1 w1 hs1 => ?_)
  clear hs
  refine To.one (One.alloc (t := 26) [Value.int IntKind.u32 0, Value.int IntKind.u32 0, Value.int IntKind.u32 0, Value.int IntKind.u32 0, Value.int IntKind.u32 0, Value.int IntKind.u32 0, Value.int IntKind.u32 0, Value.int IntKind.u32 0] hs1 (by kernel_rfl) (by kernel_rfl) fun b2 w2 hs2 => ?_)
  clear hs1
  refine To.run 9 ?_
  refine To.isFalse 28 (t := (↑b.size : Int) != 64) (by kernel_rfl) (by (simp; omega)) ?_
  refine To.run 4 ?_
  refine To.one (One.alloc (t := 40) [Value.int IntKind.u32 0, Value.int IntKind.u32 0, Value.int IntKind.u32 0, Value.int IntKind.u32 0, Value.int IntKind.u32 0, Value.int IntKind.u32 0, Value.int IntKind.u32 0, Value.int IntKind.u32 0, Value.int IntKind.u32 0, Value.int IntKind.u32 0, Value.int IntKind.u32 0, Value.int IntKind.u32 0, Value.int IntKind.u32 0, Value.int IntKind.u32 0, Value.int IntKind.u32 0, Value.int IntKind.u32 0, Value.int IntKind.u32 0, Value.int IntKind.u32 0, Value.int IntKind.u32 0, Value.int IntKind.u32 0, Value.int IntKind.u32 0, Value.int IntKind.u32 0, Value.int IntKind.u32 0, Value.int IntKind.u32 0, Value.int IntKind.u32 0, Value.int IntKind.u32 0, Value.int IntKind.u32 0, Value.int IntKind.u32 0, Value.int IntKind.u32 0, Value.int IntKind.u32 0, Value.int IntKind.u32 0, Value.int IntKind.u32 0, Value.int IntKind.u32 0, Value.int IntKind.u32 0, Value.int IntKind.u32 0, Value.int IntKind.u32 0, Value.int IntKind.u32 0, Value.int IntKind.u32 0, Value.int IntKind.u32 0, Value.int IntKind.u32 0, Value.int IntKind.u32 0, Value.int IntKind.u32 0, Value.int IntKind.u32 0, Value.int IntKind.u32 0, Value.int IntKind.u32 0, Value.int IntKind.u32 0, Value.int IntKind.u32 0, Value.int IntKind.u32 0, Value.int IntKind.u32 0, Value.int IntKind.u32 0, Value.int IntKind.u32 0, Value.int IntKind.u32 0, Value.int IntKind.u32 0, Value.int IntKind.u32 0, Value.int IntKind.u32 0, Value.int IntKind.u32 0, Value.int IntKind.u32 0, Value.int IntKind.u32 0, Value.int IntKind.u32 0, Value.int IntKind.u32 0, Value.int IntKind.u32 0, Value.int IntKind.u32 0, Value.int IntKind.u32 0, Value.int IntKind.u32 0] hs2 (by kernel_rfl) (by kernel_rfl) fun b3 w3 hs1 => ?_)
  clear hs2
  refine To.run 5 ?_
  refine To.one (One.s2b (src := 9) (dst := 28) (s := b) hs1 (by kernel_rfl) (by kernel_rfl) (by kernel_rfl) fun b4 cap1 w4 hs2 => ?_)
  clear hs1
  refine To.run 4 ?_
  refine To.known 31 (v := .slice (some ⟨b4, 0, none⟩) b.size cap1) (.slice (some ⟨b4, 0, none⟩) 64 cap1) (by kernel_rfl) (by rw [hb]) ?_
  refine To.known 32 (v := .int .i64 b.size) (.int .i64 64) (by kernel_rfl) (by rw [hb]; rfl) ?_
  refine To.run 1 ?_
  refine To.at (fn := Try.f14) (n := 7) (l := [(2, Value.pointer (some { block := b1, off := 0 })), (4, Value.pointer (some { block := b2, off := 0 })), (6, Value.pointer (some { block := b3, off := 0 })), (31, Value.slice (some { block := b4, off := 0 }) 64 cap1), (32, Value.int IntKind.i64 64), (33, Value.int IntKind.i64 0)]) (by kernel_rfl) fun j => ?_
  have hs3 : Sat E w4 (bts b4 (b.data.toList.map u8V) :: cel b3 40 (zeros64.map U) :: cel b2 26 ((List.replicate 8 (0 : BitVec 32)).map U) :: cel b1 26 (s.list.map U) :: L) := hs2
  have hbl : b.data.toList.length = 64 := by rw [Array.length_toList]; exact hb
  unfold blockS
  have hP := fillP_eq b.data.toList 16 0 zeros64 (by decide) (fun i h1 h2 => by unfold zeros64; rw [List.getD_eq_getElem?_getD, List.getElem?_replicate, if_pos (by omega)]; rfl)
  rw [← hP]
  have hl1 : (fillP b.data.toList zeros64 (4 * 0) (4 * 16)).length = 64 := by rw [hP, fillR_len]; rfl
  refine Blk_fill E _ _ b1 b3 b2 b4 cap1 b.data.toList hbl (fun j w hs => ?_) 64 0 zeros64 _ _ rfl rfl rfl hs3
  refine Blk_ext E _ _ b1 b3 b2 _ (fun j w hs => ?_) 48 16 _ j w rfl (by decide) hl1 rfl hs
  exact Blk_mid E L b1 b3 b2 _ (by rw [extN_len]; exact hl1) s j w hs

theorem Block_no (s : St8) (b : ByteArray) (hb : b.size ≠ 64) : Trip Try.prog 14 [aggU s.list, .string b] [] (fun v l => v = .tuple #[aggU (List.replicate 8 0), .bool false] ∧ l = []) := by
  refine Trip.of Try.func14 (by kernel_rfl) fun E w L hs => ?_
  simp only [List.nil_append] at hs
  have hb2 : ¬ ((b.size : Int) = 64) := by omega
  refine To.run 2 ?_
  refine To.one (One.box (t := 26) (v := Value.agg #[Value.int IntKind.u32 (↑s.a.toNat : Int), Value.int IntKind.u32 (↑s.b.toNat : Int), Value.int IntKind.u32 (↑s.c.toNat : Int), Value.int IntKind.u32 (↑s.d.toNat : Int), Value.int IntKind.u32 (↑s.e.toNat : Int), Value.int IntKind.u32 (↑s.f.toNat : Int), Value.int IntKind.u32 (↑s.g.toNat : Int), Value.int IntKind.u32 (↑s.h.toNat : Int)]) [Value.int IntKind.u32 (↑s.a.toNat : Int), Value.int IntKind.u32 (↑s.b.toNat : Int), Value.int IntKind.u32 (↑s.c.toNat : Int), Value.int IntKind.u32 (↑s.d.toNat : Int), Value.int IntKind.u32 (↑s.e.toNat : Int), Value.int IntKind.u32 (↑s.f.toNat : Int), Value.int IntKind.u32 (↑s.g.toNat : Int), Value.int IntKind.u32 (↑s.h.toNat : Int)] hs (by kernel_rfl) (by kernel_rfl) fun b1 w1 hs1 => ?_)
  clear hs
  refine To.one (One.alloc (t := 26) [Value.int IntKind.u32 0, Value.int IntKind.u32 0, Value.int IntKind.u32 0, Value.int IntKind.u32 0, Value.int IntKind.u32 0, Value.int IntKind.u32 0, Value.int IntKind.u32 0, Value.int IntKind.u32 0] hs1 (by kernel_rfl) (by kernel_rfl) fun b2 w2 hs2 => ?_)
  clear hs1
  refine To.run 9 ?_
  refine To.isTrue 28 (t := (↑b.size : Int) != 64) (by kernel_rfl) (by (simp; omega)) ?_
  refine To.run 4 ?_
  refine To.one (One.store 0 (t := 26) (off := 0) (v := Value.agg #[Value.int IntKind.u32 0, Value.int IntKind.u32 0, Value.int IntKind.u32 0, Value.int IntKind.u32 0, Value.int IntKind.u32 0, Value.int IntKind.u32 0, Value.int IntKind.u32 0, Value.int IntKind.u32 0]) (vs' := [Value.int IntKind.u32 0, Value.int IntKind.u32 0, Value.int IntKind.u32 0, Value.int IntKind.u32 0, Value.int IntKind.u32 0, Value.int IntKind.u32 0, Value.int IntKind.u32 0, Value.int IntKind.u32 0]) hs2 rfl (by kernel_rfl) (by kernel_rfl) (by kernel_rfl) fun w3 hs1 => ?_)
  simp only [List.set_cons_zero, List.set_cons_succ] at hs1
  clear hs2
  refine To.run 2 ?_
  refine To.retCell2 0 4 5 (t := 26) (off := 0) (v := Value.agg #[Value.int IntKind.u32 0, Value.int IntKind.u32 0, Value.int IntKind.u32 0, Value.int IntKind.u32 0, Value.int IntKind.u32 0, Value.int IntKind.u32 0, Value.int IntKind.u32 0, Value.int IntKind.u32 0]) (u := Value.bool false) hs1 rfl Try.func14 (by kernel_rfl) (by kernel_rfl) (by kernel_rfl) (by kernel_rfl) (by kernel_rfl) ?_
  exact ⟨_, _, rfl, ⟨rfl, rfl⟩, hs1.sub ((List.sublist_cons_self _ _).cons _)⟩
end Go.Proofs.Ytkddomellpldjaa
