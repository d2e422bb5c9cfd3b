import Derived.Test.YtkddomellpldjaaProg
import Derived.Test.YtkddomellpldjaaSxStr
import Derived.Test.YtkddomellpldjaaSsum
import Derived.Test.YtkddomellpldjaaSref
import Derived.Test.YtkddomellpldjaaStab
set_option linter.unusedSimpArgs false
set_option linter.unusedVariables false
namespace Go.Proofs.Ytkddomellpldjaa
open Go Go.Sx
set_option linter.unusedSimpArgs false
set_option maxHeartbeats 0
set_option maxRecDepth 20000

theorem RBlk_ok (s : St8) (b : ByteArray) (hb : b.size = 64) : Trip Try.prog 15 [aggU s.list, .string b] [] (fun v l => v = .tuple #[aggU (blockS s b.data.toList).list, .bool true] ∧ l = []) := by
  refine Trip.of Try.func15 (by kernel_rfl) fun E w L hs => ?_
  simp only [List.nil_append] at hs
  have hb2 : ((b.size : Int) = 64) := by omega
  have c1 := RBlock_ok s b hb
  obtain ⟨s', hs'⟩ : ∃ s', blockS s b.data.toList = s' := ⟨_, rfl⟩
  rw [hs'] at c1 ⊢
  refine To.run 2 ?_
  refine To.one (One.box (t := 26) (v := Value.agg #[Value.int IntKind.u32 (↑s.a.toNat : Int), Value.int IntKind.u32 (↑s.b.toNat : Int), Value.int IntKind.u32 (↑s.c.toNat : Int), Value.int IntKind.u32 (↑s.d.toNat : Int), Value.int IntKind.u32 (↑s.e.toNat : Int), Value.int IntKind.u32 (↑s.f.toNat : Int), Value.int IntKind.u32 (↑s.g.toNat : Int), Value.int IntKind.u32 (↑s.h.toNat : Int)]) [Value.int IntKind.u32 (↑s.a.toNat : Int), Value.int IntKind.u32 (↑s.b.toNat : Int), Value.int IntKind.u32 (↑s.c.toNat : Int), Value.int IntKind.u32 (↑s.d.toNat : Int), Value.int IntKind.u32 (↑s.e.toNat : Int), Value.int IntKind.u32 (↑s.f.toNat : Int), Value.int IntKind.u32 (↑s.g.toNat : Int), Value.int IntKind.u32 (↑s.h.toNat : Int)] hs (by kernel_rfl) (by kernel_rfl) fun b1 w1 hs1 => ?_)
  clear hs
  refine To.one (One.alloc (t := 26) [Value.int IntKind.u32 0, Value.int IntKind.u32 0, Value.int IntKind.u32 0, Value.int IntKind.u32 0, Value.int IntKind.u32 0, Value.int IntKind.u32 0, Value.int IntKind.u32 0, Value.int IntKind.u32 0] hs1 (by kernel_rfl) (by kernel_rfl) fun b2 w2 hs2 => ?_)
  clear hs1
  refine To.run 9 ?_
  refine To.isFalse 8 (t := (↑b.size : Int) != 64) (by kernel_rfl) (by (simp; omega)) ?_
  refine To.run 3 ?_
  refine To.draw [cel b2 26 [Value.int IntKind.u32 0, Value.int IntKind.u32 0, Value.int IntKind.u32 0, Value.int IntKind.u32 0, Value.int IntKind.u32 0, Value.int IntKind.u32 0, Value.int IntKind.u32 0, Value.int IntKind.u32 0], cel b1 26 [Value.int IntKind.u32 (↑s.a.toNat : Int), Value.int IntKind.u32 (↑s.b.toNat : Int), Value.int IntKind.u32 (↑s.c.toNat : Int), Value.int IntKind.u32 (↑s.d.toNat : Int), Value.int IntKind.u32 (↑s.e.toNat : Int), Value.int IntKind.u32 (↑s.f.toNat : Int), Value.int IntKind.u32 (↑s.g.toNat : Int), Value.int IntKind.u32 (↑s.h.toNat : Int)]] [4] 6 hs2 (by kernel_rfl) (by kernel_rfl) (by kernel_rfl) fun w3 hs1 => ?_
  clear hs2
  have hb1 := Sat.holds hs1 [0, 1] rfl
  refine Reg.pures [1] (fuel' := 5) (.inl hb1) rfl (by kernel_rfl) ?_
  refine Reg.load 0 1 (t := 26) (off := 0) (v := Value.agg #[Value.int IntKind.u32 (↑s.a.toNat : Int), Value.int IntKind.u32 (↑s.b.toNat : Int), Value.int IntKind.u32 (↑s.c.toNat : Int), Value.int IntKind.u32 (↑s.d.toNat : Int), Value.int IntKind.u32 (↑s.e.toNat : Int), Value.int IntKind.u32 (↑s.f.toNat : Int), Value.int IntKind.u32 (↑s.g.toNat : Int), Value.int IntKind.u32 (↑s.h.toNat : Int)]) (.inl hb1) rfl (by kernel_rfl) (by kernel_rfl) (by kernel_rfl) ?_
  refine Reg.step 2 (by kernel_rfl) (One.call 2 [] [0, 1] (g := 20) (args := []) (by kernel_rfl) hs1 (Table_ok) (by decide) rfl ?_)
  rintro _ _ w4 ⟨rfl, rfl⟩ hs2
  simp only [pickAll, List.filterMap_cons, List.filterMap_nil, List.getElem?_cons_zero, List.getElem?_cons_succ, List.cons_append, List.nil_append, List.drop_succ_cons, List.drop_zero] at hs2
  clear hs1
  have hb3 := Sat.holds hs2 [0, 1] (B := [cel b2 26 [Value.int IntKind.u32 0, Value.int IntKind.u32 0, Value.int IntKind.u32 0, Value.int IntKind.u32 0, Value.int IntKind.u32 0, Value.int IntKind.u32 0, Value.int IntKind.u32 0, Value.int IntKind.u32 0], cel b1 26 [Value.int IntKind.u32 (↑s.a.toNat : Int), Value.int IntKind.u32 (↑s.b.toNat : Int), Value.int IntKind.u32 (↑s.c.toNat : Int), Value.int IntKind.u32 (↑s.d.toNat : Int), Value.int IntKind.u32 (↑s.e.toNat : Int), Value.int IntKind.u32 (↑s.f.toNat : Int), Value.int IntKind.u32 (↑s.g.toNat : Int), Value.int IntKind.u32 (↑s.h.toNat : Int)]]) rfl
  refine ⟨.inl hb3, ?_⟩
  refine Reg.step 3 (by kernel_rfl) (One.call 2 [] [0, 1] (g := 21) (args := [Value.agg #[Value.int IntKind.u32 (↑s.a.toNat : Int), Value.int IntKind.u32 (↑s.b.toNat : Int), Value.int IntKind.u32 (↑s.c.toNat : Int), Value.int IntKind.u32 (↑s.d.toNat : Int), Value.int IntKind.u32 (↑s.e.toNat : Int), Value.int IntKind.u32 (↑s.f.toNat : Int), Value.int IntKind.u32 (↑s.g.toNat : Int), Value.int IntKind.u32 (↑s.h.toNat : Int)], Value.string b, Value.agg #[Value.int IntKind.u32 1116352408, Value.int IntKind.u32 1899447441, Value.int IntKind.u32 3049323471, Value.int IntKind.u32 3921009573, Value.int IntKind.u32 961987163, Value.int IntKind.u32 1508970993, Value.int IntKind.u32 2453635748, Value.int IntKind.u32 2870763221, Value.int IntKind.u32 3624381080, Value.int IntKind.u32 310598401, Value.int IntKind.u32 607225278, Value.int IntKind.u32 1426881987, Value.int IntKind.u32 1925078388, Value.int IntKind.u32 2162078206, Value.int IntKind.u32 2614888103, Value.int IntKind.u32 3248222580, Value.int IntKind.u32 3835390401, Value.int IntKind.u32 4022224774, Value.int IntKind.u32 264347078, Value.int IntKind.u32 604807628, Value.int IntKind.u32 770255983, Value.int IntKind.u32 1249150122, Value.int IntKind.u32 1555081692, Value.int IntKind.u32 1996064986, Value.int IntKind.u32 2554220882, Value.int IntKind.u32 2821834349, Value.int IntKind.u32 2952996808, Value.int IntKind.u32 3210313671, Value.int IntKind.u32 3336571891, Value.int IntKind.u32 3584528711, Value.int IntKind.u32 113926993, Value.int IntKind.u32 338241895, Value.int IntKind.u32 666307205, Value.int IntKind.u32 773529912, Value.int IntKind.u32 1294757372, Value.int IntKind.u32 1396182291, Value.int IntKind.u32 1695183700, Value.int IntKind.u32 1986661051, Value.int IntKind.u32 2177026350, Value.int IntKind.u32 2456956037, Value.int IntKind.u32 2730485921, Value.int IntKind.u32 2820302411, Value.int IntKind.u32 3259730800, Value.int IntKind.u32 3345764771, Value.int IntKind.u32 3516065817, Value.int IntKind.u32 3600352804, Value.int IntKind.u32 4094571909, Value.int IntKind.u32 275423344, Value.int IntKind.u32 430227734, Value.int IntKind.u32 506948616, Value.int IntKind.u32 659060556, Value.int IntKind.u32 883997877, Value.int IntKind.u32 958139571, Value.int IntKind.u32 1322822218, Value.int IntKind.u32 1537002063, Value.int IntKind.u32 1747873779, Value.int IntKind.u32 1955562222, Value.int IntKind.u32 2024104815, Value.int IntKind.u32 2227730452, Value.int IntKind.u32 2361852424, Value.int IntKind.u32 2428436474, Value.int IntKind.u32 2756734187, Value.int IntKind.u32 3204031479, Value.int IntKind.u32 3329325298]]) (by kernel_rfl) hs2 (c1) (by decide) rfl ?_)
  rintro _ _ w5 ⟨rfl, rfl⟩ hs1
  simp only [pickAll, List.filterMap_cons, List.filterMap_nil, List.getElem?_cons_zero, List.getElem?_cons_succ, List.cons_append, List.nil_append, List.drop_succ_cons, List.drop_zero] at hs1
  clear hs2
  have hb4 := Sat.holds hs1 [0, 1] (B := [cel b2 26 [Value.int IntKind.u32 0, Value.int IntKind.u32 0, Value.int IntKind.u32 0, Value.int IntKind.u32 0, Value.int IntKind.u32 0, Value.int IntKind.u32 0, Value.int IntKind.u32 0, Value.int IntKind.u32 0], cel b1 26 [Value.int IntKind.u32 (↑s.a.toNat : Int), Value.int IntKind.u32 (↑s.b.toNat : Int), Value.int IntKind.u32 (↑s.c.toNat : Int), Value.int IntKind.u32 (↑s.d.toNat : Int), Value.int IntKind.u32 (↑s.e.toNat : Int), Value.int IntKind.u32 (↑s.f.toNat : Int), Value.int IntKind.u32 (↑s.g.toNat : Int), Value.int IntKind.u32 (↑s.h.toNat : Int)]]) rfl
  refine ⟨.inl hb4, ?_⟩
  refine Reg.step 4 (by kernel_rfl) (One.store 0 (t := 26) (off := 0) (v := Value.agg #[Value.int IntKind.u32 (↑s'.a.toNat : Int), Value.int IntKind.u32 (↑s'.b.toNat : Int), Value.int IntKind.u32 (↑s'.c.toNat : Int), Value.int IntKind.u32 (↑s'.d.toNat : Int), Value.int IntKind.u32 (↑s'.e.toNat : Int), Value.int IntKind.u32 (↑s'.f.toNat : Int), Value.int IntKind.u32 (↑s'.g.toNat : Int), Value.int IntKind.u32 (↑s'.h.toNat : Int)]) (vs' := [Value.int IntKind.u32 (↑s'.a.toNat : Int), Value.int IntKind.u32 (↑s'.b.toNat : Int), Value.int IntKind.u32 (↑s'.c.toNat : Int), Value.int IntKind.u32 (↑s'.d.toNat : Int), Value.int IntKind.u32 (↑s'.e.toNat : Int), Value.int IntKind.u32 (↑s'.f.toNat : Int), Value.int IntKind.u32 (↑s'.g.toNat : Int), Value.int IntKind.u32 (↑s'.h.toNat : Int)]) hs1 rfl (by kernel_rfl) (by kernel_rfl) (by kernel_rfl) fun w6 hs2 => ?_)
  simp only [List.set_cons_zero, List.set_cons_succ] at hs2
  clear hs1
  refine ⟨(.inr (by kernel_rfl)), ?_⟩
  refine Reg.pures [5] (fuel' := 0) (.inr (by kernel_rfl)) rfl (by kernel_rfl) ?_
  refine Reg.done (by kernel_rfl) ?_
  refine To.retCell2 0 4 5 (t := 26) (off := 0) (v := Value.agg #[Value.int IntKind.u32 (↑s'.a.toNat : Int), Value.int IntKind.u32 (↑s'.b.toNat : Int), Value.int IntKind.u32 (↑s'.c.toNat : Int), Value.int IntKind.u32 (↑s'.d.toNat : Int), Value.int IntKind.u32 (↑s'.e.toNat : Int), Value.int IntKind.u32 (↑s'.f.toNat : Int), Value.int IntKind.u32 (↑s'.g.toNat : Int), Value.int IntKind.u32 (↑s'.h.toNat : Int)]) (u := Value.bool true) hs2 rfl Try.func15 (by kernel_rfl) (by kernel_rfl) (by kernel_rfl) (by kernel_rfl) (by kernel_rfl) ?_
  exact ⟨_, _, rfl, ⟨rfl, rfl⟩, hs2.sub ((List.sublist_cons_self _ _).cons _)⟩

theorem RBlk_no (s : St8) (b : ByteArray) (hb : b.size ≠ 64) : Trip Try.prog 15 [aggU s.list, .string b] [] (fun v l => v = .tuple #[aggU (List.replicate 8 0), .bool false] ∧ l = []) := by
  refine Trip.of Try.func15 (by kernel_rfl) fun E w L hs => ?_
  simp only [List.nil_append] at hs
  have hb2 : ¬ ((b.size : Int) = 64) := by omega
  refine To.run 2 ?_
  refine To.one (One.box (t := 26) (v := Value.agg #[Value.int IntKind.u32 (↑s.a.toNat : Int), Value.int IntKind.u32 (↑s.b.toNat : Int), Value.int IntKind.u32 (↑s.c.toNat : Int), Value.int IntKind.u32 (↑s.d.toNat : Int), Value.int IntKind.u32 (↑s.e.toNat : Int), Value.int IntKind.u32 (↑s.f.toNat : Int), Value.int IntKind.u32 (↑s.g.toNat : Int), Value.int IntKind.u32 (↑s.h.toNat : Int)]) [Value.int IntKind.u32 (↑s.a.toNat : Int), Value.int IntKind.u32 (↑s.b.toNat : Int), Value.int IntKind.u32 (↑s.c.toNat : Int), Value.int IntKind.u32 (↑s.d.toNat : Int), Value.int IntKind.u32 (↑s.e.toNat : Int), Value.int IntKind.u32 (↑s.f.toNat : Int), Value.int IntKind.u32 (↑s.g.toNat : Int), Value.int IntKind.u32 (↑s.h.toNat : Int)] hs (by kernel_rfl) (by kernel_rfl) fun b1 w1 hs1 => ?_)
  clear hs
  refine To.one (One.alloc (t := 26) [Value.int IntKind.u32 0, Value.int IntKind.u32 0, Value.int IntKind.u32 0, Value.int IntKind.u32 0, Value.int IntKind.u32 0, Value.int IntKind.u32 0, Value.int IntKind.u32 0, Value.int IntKind.u32 0] hs1 (by kernel_rfl) (by kernel_rfl) fun b2 w2 hs2 => ?_)
  clear hs1
  refine To.run 9 ?_
  refine To.isTrue 8 (t := (↑b.size : Int) != 64) (by kernel_rfl) (by (simp; omega)) ?_
  refine To.run 4 ?_
  refine To.one (One.store 0 (t := 26) (off := 0) (v := Value.agg #[Value.int IntKind.u32 0, Value.int IntKind.u32 0, Value.int IntKind.u32 0, Value.int IntKind.u32 0, Value.int IntKind.u32 0, Value.int IntKind.u32 0, Value.int IntKind.u32 0, Value.int IntKind.u32 0]) (vs' := [Value.int IntKind.u32 0, Value.int IntKind.u32 0, Value.int IntKind.u32 0, Value.int IntKind.u32 0, Value.int IntKind.u32 0, Value.int IntKind.u32 0, Value.int IntKind.u32 0, Value.int IntKind.u32 0]) hs2 rfl (by kernel_rfl) (by kernel_rfl) (by kernel_rfl) fun w3 hs1 => ?_)
  simp only [List.set_cons_zero, List.set_cons_succ] at hs1
  clear hs2
  refine To.run 2 ?_
  refine To.retCell2 0 4 5 (t := 26) (off := 0) (v := Value.agg #[Value.int IntKind.u32 0, Value.int IntKind.u32 0, Value.int IntKind.u32 0, Value.int IntKind.u32 0, Value.int IntKind.u32 0, Value.int IntKind.u32 0, Value.int IntKind.u32 0, Value.int IntKind.u32 0]) (u := Value.bool false) hs1 rfl Try.func15 (by kernel_rfl) (by kernel_rfl) (by kernel_rfl) (by kernel_rfl) (by kernel_rfl) ?_
  exact ⟨_, _, rfl, ⟨rfl, rfl⟩, hs1.sub ((List.sublist_cons_self _ _).cons _)⟩

theorem RSum_loop (E : World) (Q : Ending → World → Prop) (L : List Res) (sb kb : Nat) (r : ByteArray) (N : Nat) (hr : r.size = 64 * N) (hN : N ≤ 100000) (z : St8)
    (fin : ∀ (j : Nat → Value) (w : World), Sat E w (cel sb 26 (z.list.map U) :: cel kb 40 (K64.map U) :: L) → To Try.prog 11 (Cfg.here Try.f11 6 j [(0, .string r), (3, .pointer (some ⟨kb, 0, none⟩)), (4, .pointer (some ⟨sb, 0, none⟩)), (5, .int .i64 (64 * N : Nat))]) w Q) :
    ∀ (m q : Nat) (s : St8) (j : Nat → Value) (w : World), q + m = N → blocksS s (r.data.toList.drop (64 * q)) m = z → Sat E w (cel sb 26 (s.list.map U) :: cel kb 40 (K64.map U) :: L) →
    To Try.prog 11 (Cfg.here Try.f11 6 j [(0, .string r), (3, .pointer (some ⟨kb, 0, none⟩)), (4, .pointer (some ⟨sb, 0, none⟩)), (5, .int .i64 (64 * q : Nat))]) w Q := by
  intro m
  induction m with
  | zero =>
    intro q s j w hq hz hs
    obtain rfl : q = N := by omega
    rw [show s = z from hz] at hs
    exact fin j w hs
  | succ m ih =>
    intro q s j w hq hz hs
    obtain ⟨i, hi⟩ : ∃ i, 64 * q = i := ⟨_, rfl⟩
    have hle : i + 64 ≤ r.size := by omega
    have hi2 : i ≤ 6400000 := by omega
    have hi3 : 64 * (q + 1) = i + 64 := by omega
    have c1 := RBlock_ok s (r.extract i (i + 64)) (by rw [ByteArray.size_extract]; omega)
    obtain ⟨s', hs'⟩ : ∃ s', blockS s (r.extract i (i + 64)).data.toList = s' := ⟨_, rfl⟩
    rw [hs'] at c1
    have hz' : blocksS s' (r.data.toList.drop (64 * (q + 1))) m = z := by
      have e1 : (r.extract i (i + 64)).data.toList = (r.data.toList.drop i).take 64 := by
        rw [extract_list, List.drop_take]
        congr 1
        omega
      rw [← hz, hi, blocksS, ← hs', e1, hi3, List.drop_drop]
    have ih := fun s j w => ih (q + 1) s j w (by omega)
    rw [hi3] at ih hz'
    rw [hi]
    unfold St8.list at hs
    simp only [List.map_cons, List.map_nil] at hs
    have hs : Sat E w (cel sb 26 [U s.a, U s.b, U s.c, U s.d, U s.e, U s.f, U s.g, U s.h] :: cel kb 40 (K64.map U) :: L) := hs
    clear fin hz hi hi3 hq
    refine To.run 5 ?_
    refine To.known 17 (v := .int .i64 (IntKind.i64.wrap ((↑i : Int) + 64))) (.int .i64 ((↑i : Int) + 64)) (by kernel_rfl) (by rw [wrap_i64 (by omega) (by omega)]) ?_
    refine To.run 4 ?_
    refine To.isTrue 20 (t := decide ((↑i : Int) + 64 ≤ (↑r.size : Int))) (by kernel_rfl) (by (simp; omega)) ?_
    refine To.run 4 ?_
    refine To.draw [cel sb 26 [U s.a, U s.b, U s.c, U s.d, U s.e, U s.f, U s.g, U s.h], cel kb 40 (List.map U K64)] [8] 9 hs (by kernel_rfl) (by kernel_rfl) (by kernel_rfl) fun w1 hs1 => ?_
    clear hs
    have hb1 := Sat.holds hs1 [0, 1] rfl
    refine Reg.pures [1, 2, 3, 4] (fuel' := 5) (.inl hb1) rfl (by kernel_rfl) ?_
    refine Reg.known 27 (v := .int .i64 (IntKind.i64.wrap ((↑i : Int) + 64))) (.int .i64 ((↑i : Int) + 64)) (by kernel_rfl) (by rw [wrap_i64 (by omega) (by omega)]) ?_
    refine Reg.load 0 0 (t := 26) (off := 0) (v := Value.agg #[Value.int IntKind.u32 (↑s.a.toNat : Int), Value.int IntKind.u32 (↑s.b.toNat : Int), Value.int IntKind.u32 (↑s.c.toNat : Int), Value.int IntKind.u32 (↑s.d.toNat : Int), Value.int IntKind.u32 (↑s.e.toNat : Int), Value.int IntKind.u32 (↑s.f.toNat : Int), Value.int IntKind.u32 (↑s.g.toNat : Int), Value.int IntKind.u32 (↑s.h.toNat : Int)]) (.inl hb1) rfl (by kernel_rfl) (by kernel_rfl) (by kernel_rfl) ?_
    refine Reg.load 6 1 (t := 40) (off := 0) (v := Value.agg #[Value.int IntKind.u32 1116352408, Value.int IntKind.u32 1899447441, Value.int IntKind.u32 3049323471, Value.int IntKind.u32 3921009573, Value.int IntKind.u32 961987163, Value.int IntKind.u32 1508970993, Value.int IntKind.u32 2453635748, Value.int IntKind.u32 2870763221, Value.int IntKind.u32 3624381080, Value.int IntKind.u32 310598401, Value.int IntKind.u32 607225278, Value.int IntKind.u32 1426881987, Value.int IntKind.u32 1925078388, Value.int IntKind.u32 2162078206, Value.int IntKind.u32 2614888103, Value.int IntKind.u32 3248222580, Value.int IntKind.u32 3835390401, Value.int IntKind.u32 4022224774, Value.int IntKind.u32 264347078, Value.int IntKind.u32 604807628, Value.int IntKind.u32 770255983, Value.int IntKind.u32 1249150122, Value.int IntKind.u32 1555081692, Value.int IntKind.u32 1996064986, Value.int IntKind.u32 2554220882, Value.int IntKind.u32 2821834349, Value.int IntKind.u32 2952996808, Value.int IntKind.u32 3210313671, Value.int IntKind.u32 3336571891, Value.int IntKind.u32 3584528711, Value.int IntKind.u32 113926993, Value.int IntKind.u32 338241895, Value.int IntKind.u32 666307205, Value.int IntKind.u32 773529912, Value.int IntKind.u32 1294757372, Value.int IntKind.u32 1396182291, Value.int IntKind.u32 1695183700, Value.int IntKind.u32 1986661051, Value.int IntKind.u32 2177026350, Value.int IntKind.u32 2456956037, Value.int IntKind.u32 2730485921, Value.int IntKind.u32 2820302411, Value.int IntKind.u32 3259730800, Value.int IntKind.u32 3345764771, Value.int IntKind.u32 3516065817, Value.int IntKind.u32 3600352804, Value.int IntKind.u32 4094571909, Value.int IntKind.u32 275423344, Value.int IntKind.u32 430227734, Value.int IntKind.u32 506948616, Value.int IntKind.u32 659060556, Value.int IntKind.u32 883997877, Value.int IntKind.u32 958139571, Value.int IntKind.u32 1322822218, Value.int IntKind.u32 1537002063, Value.int IntKind.u32 1747873779, Value.int IntKind.u32 1955562222, Value.int IntKind.u32 2024104815, Value.int IntKind.u32 2227730452, Value.int IntKind.u32 2361852424, Value.int IntKind.u32 2428436474, Value.int IntKind.u32 2756734187, Value.int IntKind.u32 3204031479, Value.int IntKind.u32 3329325298]) (.inl hb1) rfl (by kernel_rfl) (by kernel_rfl) (by kernel_rfl) ?_
    refine Reg.step 5 (by kernel_rfl) (One.slS (lo := (some (Value.int IntKind.i64 (↑i : Int)))) (hi := (some (Value.int IntKind.i64 ((↑i : Int) + 64)))) (t := 9) (s := r) (i) (i + 64) (by kernel_rfl) (by kernel_rfl) (fun v h => ⟨_, _, (Option.some.inj h).symm, rfl⟩) (fun h => by cases h) (fun v h => ⟨_, _, (Option.some.inj h).symm, by rfl⟩) (fun h => by cases h) (by first | omega | (simp; done) | (simp; omega)) (by first | omega | (simp; done) | (simp; omega)) ?_)
    have hb2 := Sat.holds hs1 [0, 1] (B := [cel sb 26 [U s.a, U s.b, U s.c, U s.d, U s.e, U s.f, U s.g, U s.h], cel kb 40 (List.map U K64)]) rfl
    refine ⟨.inl hb2, ?_⟩
    refine Reg.step 7 (by kernel_rfl) (One.call 2 [] [0, 1] (g := 21) (args := [Value.agg #[Value.int IntKind.u32 (↑s.a.toNat : Int), Value.int IntKind.u32 (↑s.b.toNat : Int), Value.int IntKind.u32 (↑s.c.toNat : Int), Value.int IntKind.u32 (↑s.d.toNat : Int), Value.int IntKind.u32 (↑s.e.toNat : Int), Value.int IntKind.u32 (↑s.f.toNat : Int), Value.int IntKind.u32 (↑s.g.toNat : Int), Value.int IntKind.u32 (↑s.h.toNat : Int)], Value.string (r.extract i (i + 64)), Value.agg #[Value.int IntKind.u32 1116352408, Value.int IntKind.u32 1899447441, Value.int IntKind.u32 3049323471, Value.int IntKind.u32 3921009573, Value.int IntKind.u32 961987163, Value.int IntKind.u32 1508970993, Value.int IntKind.u32 2453635748, Value.int IntKind.u32 2870763221, Value.int IntKind.u32 3624381080, Value.int IntKind.u32 310598401, Value.int IntKind.u32 607225278, Value.int IntKind.u32 1426881987, Value.int IntKind.u32 1925078388, Value.int IntKind.u32 2162078206, Value.int IntKind.u32 2614888103, Value.int IntKind.u32 3248222580, Value.int IntKind.u32 3835390401, Value.int IntKind.u32 4022224774, Value.int IntKind.u32 264347078, Value.int IntKind.u32 604807628, Value.int IntKind.u32 770255983, Value.int IntKind.u32 1249150122, Value.int IntKind.u32 1555081692, Value.int IntKind.u32 1996064986, Value.int IntKind.u32 2554220882, Value.int IntKind.u32 2821834349, Value.int IntKind.u32 2952996808, Value.int IntKind.u32 3210313671, Value.int IntKind.u32 3336571891, Value.int IntKind.u32 3584528711, Value.int IntKind.u32 113926993, Value.int IntKind.u32 338241895, Value.int IntKind.u32 666307205, Value.int IntKind.u32 773529912, Value.int IntKind.u32 1294757372, Value.int IntKind.u32 1396182291, Value.int IntKind.u32 1695183700, Value.int IntKind.u32 1986661051, Value.int IntKind.u32 2177026350, Value.int IntKind.u32 2456956037, Value.int IntKind.u32 2730485921, Value.int IntKind.u32 2820302411, Value.int IntKind.u32 3259730800, Value.int IntKind.u32 3345764771, Value.int IntKind.u32 3516065817, Value.int IntKind.u32 3600352804, Value.int IntKind.u32 4094571909, Value.int IntKind.u32 275423344, Value.int IntKind.u32 430227734, Value.int IntKind.u32 506948616, Value.int IntKind.u32 659060556, Value.int IntKind.u32 883997877, Value.int IntKind.u32 958139571, Value.int IntKind.u32 1322822218, Value.int IntKind.u32 1537002063, Value.int IntKind.u32 1747873779, Value.int IntKind.u32 1955562222, Value.int IntKind.u32 2024104815, Value.int IntKind.u32 2227730452, Value.int IntKind.u32 2361852424, Value.int IntKind.u32 2428436474, Value.int IntKind.u32 2756734187, Value.int IntKind.u32 3204031479, Value.int IntKind.u32 3329325298]]) (by kernel_rfl) hs1 (c1) (by decide) rfl ?_)
    rintro _ _ w2 ⟨rfl, rfl⟩ hs2
    simp only [pickAll, List.filterMap_cons, List.filterMap_nil, List.getElem?_cons_zero, List.getElem?_cons_succ, List.cons_append, List.nil_append, List.drop_succ_cons, List.drop_zero] at hs2
    clear hs1
    have hb3 := Sat.holds hs2 [0, 1] (B := [cel sb 26 [U s.a, U s.b, U s.c, U s.d, U s.e, U s.f, U s.g, U s.h], cel kb 40 (List.map U K64)]) rfl
    refine ⟨.inl hb3, ?_⟩
    refine Reg.step 8 (by kernel_rfl) (One.store 0 (t := 26) (off := 0) (v := Value.agg #[Value.int IntKind.u32 (↑s'.a.toNat : Int), Value.int IntKind.u32 (↑s'.b.toNat : Int), Value.int IntKind.u32 (↑s'.c.toNat : Int), Value.int IntKind.u32 (↑s'.d.toNat : Int), Value.int IntKind.u32 (↑s'.e.toNat : Int), Value.int IntKind.u32 (↑s'.f.toNat : Int), Value.int IntKind.u32 (↑s'.g.toNat : Int), Value.int IntKind.u32 (↑s'.h.toNat : Int)]) (vs' := [Value.int IntKind.u32 (↑s'.a.toNat : Int), Value.int IntKind.u32 (↑s'.b.toNat : Int), Value.int IntKind.u32 (↑s'.c.toNat : Int), Value.int IntKind.u32 (↑s'.d.toNat : Int), Value.int IntKind.u32 (↑s'.e.toNat : Int), Value.int IntKind.u32 (↑s'.f.toNat : Int), Value.int IntKind.u32 (↑s'.g.toNat : Int), Value.int IntKind.u32 (↑s'.h.toNat : Int)]) hs2 rfl (by kernel_rfl) (by kernel_rfl) (by kernel_rfl) fun w3 hs1 => ?_)
    simp only [List.set_cons_zero, List.set_cons_succ] at hs1
    clear hs2
    refine ⟨(.inr (by kernel_rfl)), ?_⟩
    refine Reg.done (by kernel_rfl) ?_
    refine To.run 4 ?_
    refine To.known 22 (v := .int .i64 (IntKind.i64.wrap ((↑i : Int) + 64))) (.int .i64 ((↑i : Int) + 64)) (by kernel_rfl) (by rw [wrap_i64 (by omega) (by omega)]) ?_
    refine To.run 2 ?_
    refine To.run 1 ?_
    refine To.at (fn := Try.f11) (n := 6) (l := [(0, Value.string r), (3, Value.pointer (some { block := kb, off := 0 : Addr })), (4, Value.pointer (some { block := sb, off := 0 : Addr })), (5, Value.int IntKind.i64 ((↑i : Int) + 64))]) (by kernel_rfl) fun j => ?_
    exact ih s' _ _ hz' hs1

theorem RSum_end (E : World) (L : List Res) (sb kb : Nat) (r : ByteArray) (N : Nat) (hr : r.size = 64 * N) (hN : N ≤ 100000) (z : St8) (j : Nat → Value) (w : World) (hs : Sat E w (cel sb 26 (z.list.map U) :: cel kb 40 (K64.map U) :: L)) :
    To Try.prog 11 (Cfg.here Try.f11 6 j [(0, .string r), (3, .pointer (some ⟨kb, 0, none⟩)), (4, .pointer (some ⟨sb, 0, none⟩)), (5, .int .i64 (64 * N : Nat))]) w (Fins E L (fun v l => v = .string ⟨(digest z).toArray⟩ ∧ l = [])) := by
  unfold St8.list at hs
  simp only [List.map_cons, List.map_nil] at hs
  have hs : Sat E w (cel sb 26 [U z.a, U z.b, U z.c, U z.d, U z.e, U z.f, U z.g, U z.h] :: cel kb 40 (K64.map U) :: L) := hs
  obtain ⟨l0, g0⟩ : ∃ l : List UInt8, l = [] := ⟨_, rfl⟩
  have n0 : l0.length = 0 := by rw [g0]; rfl
  obtain ⟨i, hi⟩ : ∃ i, 64 * N = i := ⟨_, rfl⟩
  rw [hi] at hr ⊢
  have hi2 : i ≤ 6400000 := by omega
  clear hi
  refine To.run 5 ?_
  refine To.known 17 (v := .int .i64 (IntKind.i64.wrap ((↑i : Int) + 64))) (.int .i64 ((↑i : Int) + 64)) (by kernel_rfl) (by rw [wrap_i64 (by omega) (by omega)]) ?_
  refine To.run 4 ?_
  refine To.isFalse 20 (t := decide ((↑i : Int) + 64 ≤ (↑r.size : Int))) (by kernel_rfl) (by (simp; omega)) ?_
  refine To.run 12 ?_
  refine To.known 6 (v := .slice none 0 0) (.slice none l0.length 0) (by kernel_rfl) (by rw [n0]) ?_
  have hs : Sat E w (row none 0 5 (l0.map u8V) :: cel sb 26 [U z.a, U z.b, U z.c, U z.d, U z.e, U z.f, U z.g, U z.h] :: cel kb 40 (K64.map U) :: L) := by rw [g0]; exact hs.rowNil 0
  refine To.run 1 ?_
  refine To.at (fn := Try.f11) (n := 13) (l := [(4, Value.pointer (some { block := sb, off := 0 : Addr })), (6, Value.slice none l0.length 0), (7, Value.int IntKind.i64 0)]) (by kernel_rfl) fun j => ?_
  refine To.run 10 ?_
  refine To.draw [cel sb 26 [U z.a, U z.b, U z.c, U z.d, U z.e, U z.f, U z.g, U z.h], cel kb 40 (List.map U K64)] [] 23 hs (by kernel_rfl) (by kernel_rfl) (by kernel_rfl) fun w1 hs1 => ?_
  clear hs
  have hb1 := Sat.holds hs1 [1, 2] rfl
  refine Reg.pures [0, 1, 2, 6, 7, 11, 12, 16, 17] (fuel' := 14) (.inl hb1) rfl (by kernel_rfl) ?_
  refine Reg.load 3 0 (t := 25) (off := 0) (v := Value.int IntKind.u32 (↑z.a.toNat : Int)) (.inl hb1) rfl (by kernel_rfl) (by kernel_rfl) (by kernel_rfl) ?_
  refine Reg.pures [4] (fuel' := 12) (.inl hb1) rfl (by kernel_rfl) ?_
  refine Reg.known 39 _ (by kernel_rfl) (U_shr (z.a) (24) (24) rfl) ?_
  refine Reg.pures [5] (fuel' := 11) (.inl hb1) rfl (by kernel_rfl) ?_
  refine Reg.known 40 _ (by kernel_rfl) (U_to8 (z.a >>> 24)) ?_
  refine Reg.load 8 0 (t := 25) (off := 0) (v := Value.int IntKind.u32 (↑z.a.toNat : Int)) (.inl hb1) rfl (by kernel_rfl) (by kernel_rfl) (by kernel_rfl) ?_
  refine Reg.pures [9] (fuel' := 9) (.inl hb1) rfl (by kernel_rfl) ?_
  refine Reg.known 44 _ (by kernel_rfl) (U_shr (z.a) (16) (16) rfl) ?_
  refine Reg.pures [10] (fuel' := 8) (.inl hb1) rfl (by kernel_rfl) ?_
  refine Reg.known 45 _ (by kernel_rfl) (U_to8 (z.a >>> 16)) ?_
  refine Reg.load 13 0 (t := 25) (off := 0) (v := Value.int IntKind.u32 (↑z.a.toNat : Int)) (.inl hb1) rfl (by kernel_rfl) (by kernel_rfl) (by kernel_rfl) ?_
  refine Reg.pures [14] (fuel' := 6) (.inl hb1) rfl (by kernel_rfl) ?_
  refine Reg.known 49 _ (by kernel_rfl) (U_shr (z.a) (8) (8) rfl) ?_
  refine Reg.pures [15] (fuel' := 5) (.inl hb1) rfl (by kernel_rfl) ?_
  refine Reg.known 50 _ (by kernel_rfl) (U_to8 (z.a >>> 8)) ?_
  refine Reg.step 18 (by kernel_rfl) (One.load 1 (t := 25) (off := 0) (v := Value.int IntKind.u32 (↑z.a.toNat : Int)) hs1 rfl (by kernel_rfl) (by kernel_rfl) ?_)
  have hb2 := Sat.holds hs1 [1, 2] (B := [cel sb 26 [U z.a, U z.b, U z.c, U z.d, U z.e, U z.f, U z.g, U z.h], cel kb 40 (List.map U K64)]) rfl
  refine ⟨.inl hb2, ?_⟩
  refine Reg.pures [19] (fuel' := 3) (.inl hb2) rfl (by kernel_rfl) ?_
  refine Reg.known 54 _ (by kernel_rfl) (U_to8 (z.a)) ?_
  refine Reg.step 20 (by kernel_rfl) (One.slit (t := 28) (n := 4) (parts := [(0, Value.int IntKind.u8 (↑(lo8 (z.a >>> 24)).toNat : Int)), (1, Value.int IntKind.u8 (↑(lo8 (z.a >>> 16)).toNat : Int)), (2, Value.int IntKind.u8 (↑(lo8 (z.a >>> 8)).toNat : Int)), (3, Value.int IntKind.u8 (↑(lo8 z.a).toNat : Int))]) 5 [Value.int IntKind.u8 (↑(lo8 (z.a >>> 24)).toNat : Int), Value.int IntKind.u8 (↑(lo8 (z.a >>> 16)).toNat : Int), Value.int IntKind.u8 (↑(lo8 (z.a >>> 8)).toNat : Int), Value.int IntKind.u8 (↑(lo8 z.a).toNat : Int)] hs1 (by kernel_rfl) (by kernel_rfl) fun b1 w2 hs2 => ?_)
  clear hs1
  have hb3 := Sat.holds hs2 [2, 3] (B := [cel sb 26 [U z.a, U z.b, U z.c, U z.d, U z.e, U z.f, U z.g, U z.h], cel kb 40 (List.map U K64)]) rfl
  refine ⟨.inl hb3, ?_⟩
  refine Reg.step 21 (by kernel_rfl) (One.appRow 1 (t := 28) (ty := 28) (e := 5) (by_ := 1) (a := none) (cap := 0) (m := 4) (cp := 4) (n := l0.length) (xs := List.map u8V l0) (news := [Value.int IntKind.u8 (↑(lo8 (z.a >>> 24)).toNat : Int), Value.int IntKind.u8 (↑(lo8 (z.a >>> 16)).toNat : Int), Value.int IntKind.u8 (↑(lo8 (z.a >>> 8)).toNat : Int), Value.int IntKind.u8 (↑(lo8 z.a).toNat : Int)]) (b := b1) (off := 0) hs2 rfl (by kernel_rfl) (by first | rfl | (simp; done)) (by kernel_rfl) (by first | rfl | (simp; done)) (fun j u hj => cell_row hs2 0 rfl hj) (by kernel_rfl) (by first | omega | (simp; omega)) (by first | omega | (simp; omega)) fun a1 cap1 w3 hs1 => ?_)
  simp only [List.set_cons_zero, List.set_cons_succ] at hs1
  clear hs2
  replace hs1 := Sat.selDrop hs1 4 [1, 2, 3] (by decide) (by decide)
  simp only [pickAll, List.filterMap_cons, List.filterMap_nil, List.getElem?_cons_zero, List.getElem?_cons_succ, List.cons_append, List.nil_append, List.drop_succ_cons, List.drop_zero] at hs1
  have hb4 := Sat.holds hs1 [1, 2] (B := [cel sb 26 [U z.a, U z.b, U z.c, U z.d, U z.e, U z.f, U z.g, U z.h], cel kb 40 (List.map U K64)]) rfl
  refine ⟨.inl hb4, ?_⟩
  refine Reg.pures [22] (fuel' := 0) (.inl hb4) rfl (by kernel_rfl) ?_
  refine Reg.done (by kernel_rfl) ?_
  refine To.run 6 ?_
  obtain ⟨l1, g1⟩ : ∃ l, l = l0 ++ dig4 z.a := ⟨_, rfl⟩
  refine To.known 6 _ (by kernel_rfl) (snocLen4 l0 (lo8 (z.a >>> 24)) (lo8 (z.a >>> 16)) (lo8 (z.a >>> 8)) (lo8 z.a) a1 cap1) ?_
  have hs := snoc_row4 hs1 g1
  clear hs1
  rw [show l0 ++ [lo8 (z.a >>> 24), lo8 (z.a >>> 16), lo8 (z.a >>> 8), lo8 z.a] = l1 from g1.symm]
  have n1 : l1.length = l0.length + 4 := by rw [g1]; simp [dig4]
  refine To.run 1 ?_
  refine To.at (fn := Try.f11) (n := 13) (l := [(4, Value.pointer (some { block := sb, off := 0 : Addr })), (6, Value.slice a1 l1.length cap1), (7, Value.int IntKind.i64 1)]) (by kernel_rfl) fun j => ?_
  refine To.run 10 ?_
  refine To.draw [cel sb 26 [U z.a, U z.b, U z.c, U z.d, U z.e, U z.f, U z.g, U z.h], cel kb 40 (List.map U K64)] [] 23 hs (by kernel_rfl) (by kernel_rfl) (by kernel_rfl) fun w4 hs1 => ?_
  clear hs
  have hb5 := Sat.holds hs1 [1, 2] rfl
  refine Reg.pures [0, 1, 2, 6, 7, 11, 12, 16, 17] (fuel' := 14) (.inl hb5) rfl (by kernel_rfl) ?_
  refine Reg.load 3 0 (t := 25) (off := 1) (v := Value.int IntKind.u32 (↑z.b.toNat : Int)) (.inl hb5) rfl (by kernel_rfl) (by kernel_rfl) (by kernel_rfl) ?_
  refine Reg.pures [4] (fuel' := 12) (.inl hb5) rfl (by kernel_rfl) ?_
  refine Reg.known 39 _ (by kernel_rfl) (U_shr (z.b) (24) (24) rfl) ?_
  refine Reg.pures [5] (fuel' := 11) (.inl hb5) rfl (by kernel_rfl) ?_
  refine Reg.known 40 _ (by kernel_rfl) (U_to8 (z.b >>> 24)) ?_
  refine Reg.load 8 0 (t := 25) (off := 1) (v := Value.int IntKind.u32 (↑z.b.toNat : Int)) (.inl hb5) rfl (by kernel_rfl) (by kernel_rfl) (by kernel_rfl) ?_
  refine Reg.pures [9] (fuel' := 9) (.inl hb5) rfl (by kernel_rfl) ?_
  refine Reg.known 44 _ (by kernel_rfl) (U_shr (z.b) (16) (16) rfl) ?_
  refine Reg.pures [10] (fuel' := 8) (.inl hb5) rfl (by kernel_rfl) ?_
  refine Reg.known 45 _ (by kernel_rfl) (U_to8 (z.b >>> 16)) ?_
  refine Reg.load 13 0 (t := 25) (off := 1) (v := Value.int IntKind.u32 (↑z.b.toNat : Int)) (.inl hb5) rfl (by kernel_rfl) (by kernel_rfl) (by kernel_rfl) ?_
  refine Reg.pures [14] (fuel' := 6) (.inl hb5) rfl (by kernel_rfl) ?_
  refine Reg.known 49 _ (by kernel_rfl) (U_shr (z.b) (8) (8) rfl) ?_
  refine Reg.pures [15] (fuel' := 5) (.inl hb5) rfl (by kernel_rfl) ?_
  refine Reg.known 50 _ (by kernel_rfl) (U_to8 (z.b >>> 8)) ?_
  refine Reg.step 18 (by kernel_rfl) (One.load 1 (t := 25) (off := 1) (v := Value.int IntKind.u32 (↑z.b.toNat : Int)) hs1 rfl (by kernel_rfl) (by kernel_rfl) ?_)
  have hb6 := Sat.holds hs1 [1, 2] (B := [cel sb 26 [U z.a, U z.b, U z.c, U z.d, U z.e, U z.f, U z.g, U z.h], cel kb 40 (List.map U K64)]) rfl
  refine ⟨.inl hb6, ?_⟩
  refine Reg.pures [19] (fuel' := 3) (.inl hb6) rfl (by kernel_rfl) ?_
  refine Reg.known 54 _ (by kernel_rfl) (U_to8 (z.b)) ?_
  refine Reg.step 20 (by kernel_rfl) (One.slit (t := 28) (n := 4) (parts := [(0, Value.int IntKind.u8 (↑(lo8 (z.b >>> 24)).toNat : Int)), (1, Value.int IntKind.u8 (↑(lo8 (z.b >>> 16)).toNat : Int)), (2, Value.int IntKind.u8 (↑(lo8 (z.b >>> 8)).toNat : Int)), (3, Value.int IntKind.u8 (↑(lo8 z.b).toNat : Int))]) 5 [Value.int IntKind.u8 (↑(lo8 (z.b >>> 24)).toNat : Int), Value.int IntKind.u8 (↑(lo8 (z.b >>> 16)).toNat : Int), Value.int IntKind.u8 (↑(lo8 (z.b >>> 8)).toNat : Int), Value.int IntKind.u8 (↑(lo8 z.b).toNat : Int)] hs1 (by kernel_rfl) (by kernel_rfl) fun b2 w5 hs2 => ?_)
  clear hs1
  have hb7 := Sat.holds hs2 [2, 3] (B := [cel sb 26 [U z.a, U z.b, U z.c, U z.d, U z.e, U z.f, U z.g, U z.h], cel kb 40 (List.map U K64)]) rfl
  refine ⟨.inl hb7, ?_⟩
  refine Reg.step 21 (by kernel_rfl) (One.appRow 1 (t := 28) (ty := 28) (e := 5) (by_ := 1) (a := a1) (cap := cap1) (m := 4) (cp := 4) (n := l1.length) (xs := List.map u8V l1) (news := [Value.int IntKind.u8 (↑(lo8 (z.b >>> 24)).toNat : Int), Value.int IntKind.u8 (↑(lo8 (z.b >>> 16)).toNat : Int), Value.int IntKind.u8 (↑(lo8 (z.b >>> 8)).toNat : Int), Value.int IntKind.u8 (↑(lo8 z.b).toNat : Int)]) (b := b2) (off := 0) hs2 rfl (by kernel_rfl) (by first | rfl | (simp; done)) (by kernel_rfl) (by first | rfl | (simp; done)) (fun j u hj => cell_row hs2 0 rfl hj) (by kernel_rfl) (by first | omega | (simp; omega)) (by first | omega | (simp; omega)) fun a2 cap2 w6 hs1 => ?_)
  simp only [List.set_cons_zero, List.set_cons_succ] at hs1
  clear hs2
  replace hs1 := Sat.selDrop hs1 4 [1, 2, 3] (by decide) (by decide)
  simp only [pickAll, List.filterMap_cons, List.filterMap_nil, List.getElem?_cons_zero, List.getElem?_cons_succ, List.cons_append, List.nil_append, List.drop_succ_cons, List.drop_zero] at hs1
  have hb8 := Sat.holds hs1 [1, 2] (B := [cel sb 26 [U z.a, U z.b, U z.c, U z.d, U z.e, U z.f, U z.g, U z.h], cel kb 40 (List.map U K64)]) rfl
  refine ⟨.inl hb8, ?_⟩
  refine Reg.pures [22] (fuel' := 0) (.inl hb8) rfl (by kernel_rfl) ?_
  refine Reg.done (by kernel_rfl) ?_
  refine To.run 6 ?_
  obtain ⟨l2, g2⟩ : ∃ l, l = l1 ++ dig4 z.b := ⟨_, rfl⟩
  refine To.known 6 _ (by kernel_rfl) (snocLen4 l1 (lo8 (z.b >>> 24)) (lo8 (z.b >>> 16)) (lo8 (z.b >>> 8)) (lo8 z.b) a2 cap2) ?_
  have hs := snoc_row4 hs1 g2
  clear hs1
  rw [show l1 ++ [lo8 (z.b >>> 24), lo8 (z.b >>> 16), lo8 (z.b >>> 8), lo8 z.b] = l2 from g2.symm]
  have n2 : l2.length = l1.length + 4 := by rw [g2]; simp [dig4]
  refine To.run 1 ?_
  refine To.at (fn := Try.f11) (n := 13) (l := [(4, Value.pointer (some { block := sb, off := 0 : Addr })), (6, Value.slice a2 l2.length cap2), (7, Value.int IntKind.i64 2)]) (by kernel_rfl) fun j => ?_
  refine To.run 10 ?_
  refine To.draw [cel sb 26 [U z.a, U z.b, U z.c, U z.d, U z.e, U z.f, U z.g, U z.h], cel kb 40 (List.map U K64)] [] 23 hs (by kernel_rfl) (by kernel_rfl) (by kernel_rfl) fun w7 hs1 => ?_
  clear hs
  have hb9 := Sat.holds hs1 [1, 2] rfl
  refine Reg.pures [0, 1, 2, 6, 7, 11, 12, 16, 17] (fuel' := 14) (.inl hb9) rfl (by kernel_rfl) ?_
  refine Reg.load 3 0 (t := 25) (off := 2) (v := Value.int IntKind.u32 (↑z.c.toNat : Int)) (.inl hb9) rfl (by kernel_rfl) (by kernel_rfl) (by kernel_rfl) ?_
  refine Reg.pures [4] (fuel' := 12) (.inl hb9) rfl (by kernel_rfl) ?_
  refine Reg.known 39 _ (by kernel_rfl) (U_shr (z.c) (24) (24) rfl) ?_
  refine Reg.pures [5] (fuel' := 11) (.inl hb9) rfl (by kernel_rfl) ?_
  refine Reg.known 40 _ (by kernel_rfl) (U_to8 (z.c >>> 24)) ?_
  refine Reg.load 8 0 (t := 25) (off := 2) (v := Value.int IntKind.u32 (↑z.c.toNat : Int)) (.inl hb9) rfl (by kernel_rfl) (by kernel_rfl) (by kernel_rfl) ?_
  refine Reg.pures [9] (fuel' := 9) (.inl hb9) rfl (by kernel_rfl) ?_
  refine Reg.known 44 _ (by kernel_rfl) (U_shr (z.c) (16) (16) rfl) ?_
  refine Reg.pures [10] (fuel' := 8) (.inl hb9) rfl (by kernel_rfl) ?_
  refine Reg.known 45 _ (by kernel_rfl) (U_to8 (z.c >>> 16)) ?_
  refine Reg.load 13 0 (t := 25) (off := 2) (v := Value.int IntKind.u32 (↑z.c.toNat : Int)) (.inl hb9) rfl (by kernel_rfl) (by kernel_rfl) (by kernel_rfl) ?_
  refine Reg.pures [14] (fuel' := 6) (.inl hb9) rfl (by kernel_rfl) ?_
  refine Reg.known 49 _ (by kernel_rfl) (U_shr (z.c) (8) (8) rfl) ?_
  refine Reg.pures [15] (fuel' := 5) (.inl hb9) rfl (by kernel_rfl) ?_
  refine Reg.known 50 _ (by kernel_rfl) (U_to8 (z.c >>> 8)) ?_
  refine Reg.step 18 (by kernel_rfl) (One.load 1 (t := 25) (off := 2) (v := Value.int IntKind.u32 (↑z.c.toNat : Int)) hs1 rfl (by kernel_rfl) (by kernel_rfl) ?_)
  have hb10 := Sat.holds hs1 [1, 2] (B := [cel sb 26 [U z.a, U z.b, U z.c, U z.d, U z.e, U z.f, U z.g, U z.h], cel kb 40 (List.map U K64)]) rfl
  refine ⟨.inl hb10, ?_⟩
  refine Reg.pures [19] (fuel' := 3) (.inl hb10) rfl (by kernel_rfl) ?_
  refine Reg.known 54 _ (by kernel_rfl) (U_to8 (z.c)) ?_
  refine Reg.step 20 (by kernel_rfl) (One.slit (t := 28) (n := 4) (parts := [(0, Value.int IntKind.u8 (↑(lo8 (z.c >>> 24)).toNat : Int)), (1, Value.int IntKind.u8 (↑(lo8 (z.c >>> 16)).toNat : Int)), (2, Value.int IntKind.u8 (↑(lo8 (z.c >>> 8)).toNat : Int)), (3, Value.int IntKind.u8 (↑(lo8 z.c).toNat : Int))]) 5 [Value.int IntKind.u8 (↑(lo8 (z.c >>> 24)).toNat : Int), Value.int IntKind.u8 (↑(lo8 (z.c >>> 16)).toNat : Int), Value.int IntKind.u8 (↑(lo8 (z.c >>> 8)).toNat : Int), Value.int IntKind.u8 (↑(lo8 z.c).toNat : Int)] hs1 (by kernel_rfl) (by kernel_rfl) fun b3 w8 hs2 => ?_)
  clear hs1
  have hb11 := Sat.holds hs2 [2, 3] (B := [cel sb 26 [U z.a, U z.b, U z.c, U z.d, U z.e, U z.f, U z.g, U z.h], cel kb 40 (List.map U K64)]) rfl
  refine ⟨.inl hb11, ?_⟩
  refine Reg.step 21 (by kernel_rfl) (One.appRow 1 (t := 28) (ty := 28) (e := 5) (by_ := 1) (a := a2) (cap := cap2) (m := 4) (cp := 4) (n := l2.length) (xs := List.map u8V l2) (news := [Value.int IntKind.u8 (↑(lo8 (z.c >>> 24)).toNat : Int), Value.int IntKind.u8 (↑(lo8 (z.c >>> 16)).toNat : Int), Value.int IntKind.u8 (↑(lo8 (z.c >>> 8)).toNat : Int), Value.int IntKind.u8 (↑(lo8 z.c).toNat : Int)]) (b := b3) (off := 0) hs2 rfl (by kernel_rfl) (by first | rfl | (simp; done)) (by kernel_rfl) (by first | rfl | (simp; done)) (fun j u hj => cell_row hs2 0 rfl hj) (by kernel_rfl) (by first | omega | (simp; omega)) (by first | omega | (simp; omega)) fun a3 cap3 w9 hs1 => ?_)
  simp only [List.set_cons_zero, List.set_cons_succ] at hs1
  clear hs2
  replace hs1 := Sat.selDrop hs1 4 [1, 2, 3] (by decide) (by decide)
  simp only [pickAll, List.filterMap_cons, List.filterMap_nil, List.getElem?_cons_zero, List.getElem?_cons_succ, List.cons_append, List.nil_append, List.drop_succ_cons, List.drop_zero] at hs1
  have hb12 := Sat.holds hs1 [1, 2] (B := [cel sb 26 [U z.a, U z.b, U z.c, U z.d, U z.e, U z.f, U z.g, U z.h], cel kb 40 (List.map U K64)]) rfl
  refine ⟨.inl hb12, ?_⟩
  refine Reg.pures [22] (fuel' := 0) (.inl hb12) rfl (by kernel_rfl) ?_
  refine Reg.done (by kernel_rfl) ?_
  refine To.run 6 ?_
  obtain ⟨l3, g3⟩ : ∃ l, l = l2 ++ dig4 z.c := ⟨_, rfl⟩
  refine To.known 6 _ (by kernel_rfl) (snocLen4 l2 (lo8 (z.c >>> 24)) (lo8 (z.c >>> 16)) (lo8 (z.c >>> 8)) (lo8 z.c) a3 cap3) ?_
  have hs := snoc_row4 hs1 g3
  clear hs1
  rw [show l2 ++ [lo8 (z.c >>> 24), lo8 (z.c >>> 16), lo8 (z.c >>> 8), lo8 z.c] = l3 from g3.symm]
  have n3 : l3.length = l2.length + 4 := by rw [g3]; simp [dig4]
  refine To.run 1 ?_
  refine To.at (fn := Try.f11) (n := 13) (l := [(4, Value.pointer (some { block := sb, off := 0 : Addr })), (6, Value.slice a3 l3.length cap3), (7, Value.int IntKind.i64 3)]) (by kernel_rfl) fun j => ?_
  refine To.run 10 ?_
  refine To.draw [cel sb 26 [U z.a, U z.b, U z.c, U z.d, U z.e, U z.f, U z.g, U z.h], cel kb 40 (List.map U K64)] [] 23 hs (by kernel_rfl) (by kernel_rfl) (by kernel_rfl) fun w10 hs1 => ?_
  clear hs
  have hb13 := Sat.holds hs1 [1, 2] rfl
  refine Reg.pures [0, 1, 2, 6, 7, 11, 12, 16, 17] (fuel' := 14) (.inl hb13) rfl (by kernel_rfl) ?_
  refine Reg.load 3 0 (t := 25) (off := 3) (v := Value.int IntKind.u32 (↑z.d.toNat : Int)) (.inl hb13) rfl (by kernel_rfl) (by kernel_rfl) (by kernel_rfl) ?_
  refine Reg.pures [4] (fuel' := 12) (.inl hb13) rfl (by kernel_rfl) ?_
  refine Reg.known 39 _ (by kernel_rfl) (U_shr (z.d) (24) (24) rfl) ?_
  refine Reg.pures [5] (fuel' := 11) (.inl hb13) rfl (by kernel_rfl) ?_
  refine Reg.known 40 _ (by kernel_rfl) (U_to8 (z.d >>> 24)) ?_
  refine Reg.load 8 0 (t := 25) (off := 3) (v := Value.int IntKind.u32 (↑z.d.toNat : Int)) (.inl hb13) rfl (by kernel_rfl) (by kernel_rfl) (by kernel_rfl) ?_
  refine Reg.pures [9] (fuel' := 9) (.inl hb13) rfl (by kernel_rfl) ?_
  refine Reg.known 44 _ (by kernel_rfl) (U_shr (z.d) (16) (16) rfl) ?_
  refine Reg.pures [10] (fuel' := 8) (.inl hb13) rfl (by kernel_rfl) ?_
  refine Reg.known 45 _ (by kernel_rfl) (U_to8 (z.d >>> 16)) ?_
  refine Reg.load 13 0 (t := 25) (off := 3) (v := Value.int IntKind.u32 (↑z.d.toNat : Int)) (.inl hb13) rfl (by kernel_rfl) (by kernel_rfl) (by kernel_rfl) ?_
  refine Reg.pures [14] (fuel' := 6) (.inl hb13) rfl (by kernel_rfl) ?_
  refine Reg.known 49 _ (by kernel_rfl) (U_shr (z.d) (8) (8) rfl) ?_
  refine Reg.pures [15] (fuel' := 5) (.inl hb13) rfl (by kernel_rfl) ?_
  refine Reg.known 50 _ (by kernel_rfl) (U_to8 (z.d >>> 8)) ?_
  refine Reg.step 18 (by kernel_rfl) (One.load 1 (t := 25) (off := 3) (v := Value.int IntKind.u32 (↑z.d.toNat : Int)) hs1 rfl (by kernel_rfl) (by kernel_rfl) ?_)
  have hb14 := Sat.holds hs1 [1, 2] (B := [cel sb 26 [U z.a, U z.b, U z.c, U z.d, U z.e, U z.f, U z.g, U z.h], cel kb 40 (List.map U K64)]) rfl
  refine ⟨.inl hb14, ?_⟩
  refine Reg.pures [19] (fuel' := 3) (.inl hb14) rfl (by kernel_rfl) ?_
  refine Reg.known 54 _ (by kernel_rfl) (U_to8 (z.d)) ?_
  refine Reg.step 20 (by kernel_rfl) (One.slit (t := 28) (n := 4) (parts := [(0, Value.int IntKind.u8 (↑(lo8 (z.d >>> 24)).toNat : Int)), (1, Value.int IntKind.u8 (↑(lo8 (z.d >>> 16)).toNat : Int)), (2, Value.int IntKind.u8 (↑(lo8 (z.d >>> 8)).toNat : Int)), (3, Value.int IntKind.u8 (↑(lo8 z.d).toNat : Int))]) 5 [Value.int IntKind.u8 (↑(lo8 (z.d >>> 24)).toNat : Int), Value.int IntKind.u8 (↑(lo8 (z.d >>> 16)).toNat : Int), Value.int IntKind.u8 (↑(lo8 (z.d >>> 8)).toNat : Int), Value.int IntKind.u8 (↑(lo8 z.d).toNat : Int)] hs1 (by kernel_rfl) (by kernel_rfl) fun b4 w11 hs2 => ?_)
  clear hs1
  have hb15 := Sat.holds hs2 [2, 3] (B := [cel sb 26 [U z.a, U z.b, U z.c, U z.d, U z.e, U z.f, U z.g, U z.h], cel kb 40 (List.map U K64)]) rfl
  refine ⟨.inl hb15, ?_⟩
  refine Reg.step 21 (by kernel_rfl) (One.appRow 1 (t := 28) (ty := 28) (e := 5) (by_ := 1) (a := a3) (cap := cap3) (m := 4) (cp := 4) (n := l3.length) (xs := List.map u8V l3) (news := [Value.int IntKind.u8 (↑(lo8 (z.d >>> 24)).toNat : Int), Value.int IntKind.u8 (↑(lo8 (z.d >>> 16)).toNat : Int), Value.int IntKind.u8 (↑(lo8 (z.d >>> 8)).toNat : Int), Value.int IntKind.u8 (↑(lo8 z.d).toNat : Int)]) (b := b4) (off := 0) hs2 rfl (by kernel_rfl) (by first | rfl | (simp; done)) (by kernel_rfl) (by first | rfl | (simp; done)) (fun j u hj => cell_row hs2 0 rfl hj) (by kernel_rfl) (by first | omega | (simp; omega)) (by first | omega | (simp; omega)) fun a4 cap4 w12 hs1 => ?_)
  simp only [List.set_cons_zero, List.set_cons_succ] at hs1
  clear hs2
  replace hs1 := Sat.selDrop hs1 4 [1, 2, 3] (by decide) (by decide)
  simp only [pickAll, List.filterMap_cons, List.filterMap_nil, List.getElem?_cons_zero, List.getElem?_cons_succ, List.cons_append, List.nil_append, List.drop_succ_cons, List.drop_zero] at hs1
  have hb16 := Sat.holds hs1 [1, 2] (B := [cel sb 26 [U z.a, U z.b, U z.c, U z.d, U z.e, U z.f, U z.g, U z.h], cel kb 40 (List.map U K64)]) rfl
  refine ⟨.inl hb16, ?_⟩
  refine Reg.pures [22] (fuel' := 0) (.inl hb16) rfl (by kernel_rfl) ?_
  refine Reg.done (by kernel_rfl) ?_
  refine To.run 6 ?_
  obtain ⟨l4, g4⟩ : ∃ l, l = l3 ++ dig4 z.d := ⟨_, rfl⟩
  refine To.known 6 _ (by kernel_rfl) (snocLen4 l3 (lo8 (z.d >>> 24)) (lo8 (z.d >>> 16)) (lo8 (z.d >>> 8)) (lo8 z.d) a4 cap4) ?_
  have hs := snoc_row4 hs1 g4
  clear hs1
  rw [show l3 ++ [lo8 (z.d >>> 24), lo8 (z.d >>> 16), lo8 (z.d >>> 8), lo8 z.d] = l4 from g4.symm]
  have n4 : l4.length = l3.length + 4 := by rw [g4]; simp [dig4]
  refine To.run 1 ?_
  refine To.at (fn := Try.f11) (n := 13) (l := [(4, Value.pointer (some { block := sb, off := 0 : Addr })), (6, Value.slice a4 l4.length cap4), (7, Value.int IntKind.i64 4)]) (by kernel_rfl) fun j => ?_
  refine To.run 10 ?_
  refine To.draw [cel sb 26 [U z.a, U z.b, U z.c, U z.d, U z.e, U z.f, U z.g, U z.h], cel kb 40 (List.map U K64)] [] 23 hs (by kernel_rfl) (by kernel_rfl) (by kernel_rfl) fun w13 hs1 => ?_
  clear hs
  have hb17 := Sat.holds hs1 [1, 2] rfl
  refine Reg.pures [0, 1, 2, 6, 7, 11, 12, 16, 17] (fuel' := 14) (.inl hb17) rfl (by kernel_rfl) ?_
  refine Reg.load 3 0 (t := 25) (off := 4) (v := Value.int IntKind.u32 (↑z.e.toNat : Int)) (.inl hb17) rfl (by kernel_rfl) (by kernel_rfl) (by kernel_rfl) ?_
  refine Reg.pures [4] (fuel' := 12) (.inl hb17) rfl (by kernel_rfl) ?_
  refine Reg.known 39 _ (by kernel_rfl) (U_shr (z.e) (24) (24) rfl) ?_
  refine Reg.pures [5] (fuel' := 11) (.inl hb17) rfl (by kernel_rfl) ?_
  refine Reg.known 40 _ (by kernel_rfl) (U_to8 (z.e >>> 24)) ?_
  refine Reg.load 8 0 (t := 25) (off := 4) (v := Value.int IntKind.u32 (↑z.e.toNat : Int)) (.inl hb17) rfl (by kernel_rfl) (by kernel_rfl) (by kernel_rfl) ?_
  refine Reg.pures [9] (fuel' := 9) (.inl hb17) rfl (by kernel_rfl) ?_
  refine Reg.known 44 _ (by kernel_rfl) (U_shr (z.e) (16) (16) rfl) ?_
  refine Reg.pures [10] (fuel' := 8) (.inl hb17) rfl (by kernel_rfl) ?_
  refine Reg.known 45 _ (by kernel_rfl) (U_to8 (z.e >>> 16)) ?_
  refine Reg.load 13 0 (t := 25) (off := 4) (v := Value.int IntKind.u32 (↑z.e.toNat : Int)) (.inl hb17) rfl (by kernel_rfl) (by kernel_rfl) (by kernel_rfl) ?_
  refine Reg.pures [14] (fuel' := 6) (.inl hb17) rfl (by kernel_rfl) ?_
  refine Reg.known 49 _ (by kernel_rfl) (U_shr (z.e) (8) (8) rfl) ?_
  refine Reg.pures [15] (fuel' := 5) (.inl hb17) rfl (by kernel_rfl) ?_
  refine Reg.known 50 _ (by kernel_rfl) (U_to8 (z.e >>> 8)) ?_
  refine Reg.step 18 (by kernel_rfl) (One.load 1 (t := 25) (off := 4) (v := Value.int IntKind.u32 (↑z.e.toNat : Int)) hs1 rfl (by kernel_rfl) (by kernel_rfl) ?_)
  have hb18 := Sat.holds hs1 [1, 2] (B := [cel sb 26 [U z.a, U z.b, U z.c, U z.d, U z.e, U z.f, U z.g, U z.h], cel kb 40 (List.map U K64)]) rfl
  refine ⟨.inl hb18, ?_⟩
  refine Reg.pures [19] (fuel' := 3) (.inl hb18) rfl (by kernel_rfl) ?_
  refine Reg.known 54 _ (by kernel_rfl) (U_to8 (z.e)) ?_
  refine Reg.step 20 (by kernel_rfl) (One.slit (t := 28) (n := 4) (parts := [(0, Value.int IntKind.u8 (↑(lo8 (z.e >>> 24)).toNat : Int)), (1, Value.int IntKind.u8 (↑(lo8 (z.e >>> 16)).toNat : Int)), (2, Value.int IntKind.u8 (↑(lo8 (z.e >>> 8)).toNat : Int)), (3, Value.int IntKind.u8 (↑(lo8 z.e).toNat : Int))]) 5 [Value.int IntKind.u8 (↑(lo8 (z.e >>> 24)).toNat : Int), Value.int IntKind.u8 (↑(lo8 (z.e >>> 16)).toNat : Int), Value.int IntKind.u8 (↑(lo8 (z.e >>> 8)).toNat : Int), Value.int IntKind.u8 (↑(lo8 z.e).toNat : Int)] hs1 (by kernel_rfl) (by kernel_rfl) fun b5 w14 hs2 => ?_)
  clear hs1
  have hb19 := Sat.holds hs2 [2, 3] (B := [cel sb 26 [U z.a, U z.b, U z.c, U z.d, U z.e, U z.f, U z.g, U z.h], cel kb 40 (List.map U K64)]) rfl
  refine ⟨.inl hb19, ?_⟩
  refine Reg.step 21 (by kernel_rfl) (One.appRow 1 (t := 28) (ty := 28) (e := 5) (by_ := 1) (a := a4) (cap := cap4) (m := 4) (cp := 4) (n := l4.length) (xs := List.map u8V l4) (news := [Value.int IntKind.u8 (↑(lo8 (z.e >>> 24)).toNat : Int), Value.int IntKind.u8 (↑(lo8 (z.e >>> 16)).toNat : Int), Value.int IntKind.u8 (↑(lo8 (z.e >>> 8)).toNat : Int), Value.int IntKind.u8 (↑(lo8 z.e).toNat : Int)]) (b := b5) (off := 0) hs2 rfl (by kernel_rfl) (by first | rfl | (simp; done)) (by kernel_rfl) (by first | rfl | (simp; done)) (fun j u hj => cell_row hs2 0 rfl hj) (by kernel_rfl) (by first | omega | (simp; omega)) (by first | omega | (simp; omega)) fun a5 cap5 w15 hs1 => ?_)
  simp only [List.set_cons_zero, List.set_cons_succ] at hs1
  clear hs2
  replace hs1 := Sat.selDrop hs1 4 [1, 2, 3] (by decide) (by decide)
  simp only [pickAll, List.filterMap_cons, List.filterMap_nil, List.getElem?_cons_zero, List.getElem?_cons_succ, List.cons_append, List.nil_append, List.drop_succ_cons, List.drop_zero] at hs1
  have hb20 := Sat.holds hs1 [1, 2] (B := [cel sb 26 [U z.a, U z.b, U z.c, U z.d, U z.e, U z.f, U z.g, U z.h], cel kb 40 (List.map U K64)]) rfl
  refine ⟨.inl hb20, ?_⟩
  refine Reg.pures [22] (fuel' := 0) (.inl hb20) rfl (by kernel_rfl) ?_
  refine Reg.done (by kernel_rfl) ?_
  refine To.run 6 ?_
  obtain ⟨l5, g5⟩ : ∃ l, l = l4 ++ dig4 z.e := ⟨_, rfl⟩
  refine To.known 6 _ (by kernel_rfl) (snocLen4 l4 (lo8 (z.e >>> 24)) (lo8 (z.e >>> 16)) (lo8 (z.e >>> 8)) (lo8 z.e) a5 cap5) ?_
  have hs := snoc_row4 hs1 g5
  clear hs1
  rw [show l4 ++ [lo8 (z.e >>> 24), lo8 (z.e >>> 16), lo8 (z.e >>> 8), lo8 z.e] = l5 from g5.symm]
  have n5 : l5.length = l4.length + 4 := by rw [g5]; simp [dig4]
  refine To.run 1 ?_
  refine To.at (fn := Try.f11) (n := 13) (l := [(4, Value.pointer (some { block := sb, off := 0 : Addr })), (6, Value.slice a5 l5.length cap5), (7, Value.int IntKind.i64 5)]) (by kernel_rfl) fun j => ?_
  refine To.run 10 ?_
  refine To.draw [cel sb 26 [U z.a, U z.b, U z.c, U z.d, U z.e, U z.f, U z.g, U z.h], cel kb 40 (List.map U K64)] [] 23 hs (by kernel_rfl) (by kernel_rfl) (by kernel_rfl) fun w16 hs1 => ?_
  clear hs
  have hb21 := Sat.holds hs1 [1, 2] rfl
  refine Reg.pures [0, 1, 2, 6, 7, 11, 12, 16, 17] (fuel' := 14) (.inl hb21) rfl (by kernel_rfl) ?_
  refine Reg.load 3 0 (t := 25) (off := 5) (v := Value.int IntKind.u32 (↑z.f.toNat : Int)) (.inl hb21) rfl (by kernel_rfl) (by kernel_rfl) (by kernel_rfl) ?_
  refine Reg.pures [4] (fuel' := 12) (.inl hb21) rfl (by kernel_rfl) ?_
  refine Reg.known 39 _ (by kernel_rfl) (U_shr (z.f) (24) (24) rfl) ?_
  refine Reg.pures [5] (fuel' := 11) (.inl hb21) rfl (by kernel_rfl) ?_
  refine Reg.known 40 _ (by kernel_rfl) (U_to8 (z.f >>> 24)) ?_
  refine Reg.load 8 0 (t := 25) (off := 5) (v := Value.int IntKind.u32 (↑z.f.toNat : Int)) (.inl hb21) rfl (by kernel_rfl) (by kernel_rfl) (by kernel_rfl) ?_
  refine Reg.pures [9] (fuel' := 9) (.inl hb21) rfl (by kernel_rfl) ?_
  refine Reg.known 44 _ (by kernel_rfl) (U_shr (z.f) (16) (16) rfl) ?_
  refine Reg.pures [10] (fuel' := 8) (.inl hb21) rfl (by kernel_rfl) ?_
  refine Reg.known 45 _ (by kernel_rfl) (U_to8 (z.f >>> 16)) ?_
  refine Reg.load 13 0 (t := 25) (off := 5) (v := Value.int IntKind.u32 (↑z.f.toNat : Int)) (.inl hb21) rfl (by kernel_rfl) (by kernel_rfl) (by kernel_rfl) ?_
  refine Reg.pures [14] (fuel' := 6) (.inl hb21) rfl (by kernel_rfl) ?_
  refine Reg.known 49 _ (by kernel_rfl) (U_shr (z.f) (8) (8) rfl) ?_
  refine Reg.pures [15] (fuel' := 5) (.inl hb21) rfl (by kernel_rfl) ?_
  refine Reg.known 50 _ (by kernel_rfl) (U_to8 (z.f >>> 8)) ?_
  refine Reg.step 18 (by kernel_rfl) (One.load 1 (t := 25) (off := 5) (v := Value.int IntKind.u32 (↑z.f.toNat : Int)) hs1 rfl (by kernel_rfl) (by kernel_rfl) ?_)
  have hb22 := Sat.holds hs1 [1, 2] (B := [cel sb 26 [U z.a, U z.b, U z.c, U z.d, U z.e, U z.f, U z.g, U z.h], cel kb 40 (List.map U K64)]) rfl
  refine ⟨.inl hb22, ?_⟩
  refine Reg.pures [19] (fuel' := 3) (.inl hb22) rfl (by kernel_rfl) ?_
  refine Reg.known 54 _ (by kernel_rfl) (U_to8 (z.f)) ?_
  refine Reg.step 20 (by kernel_rfl) (One.slit (t := 28) (n := 4) (parts := [(0, Value.int IntKind.u8 (↑(lo8 (z.f >>> 24)).toNat : Int)), (1, Value.int IntKind.u8 (↑(lo8 (z.f >>> 16)).toNat : Int)), (2, Value.int IntKind.u8 (↑(lo8 (z.f >>> 8)).toNat : Int)), (3, Value.int IntKind.u8 (↑(lo8 z.f).toNat : Int))]) 5 [Value.int IntKind.u8 (↑(lo8 (z.f >>> 24)).toNat : Int), Value.int IntKind.u8 (↑(lo8 (z.f >>> 16)).toNat : Int), Value.int IntKind.u8 (↑(lo8 (z.f >>> 8)).toNat : Int), Value.int IntKind.u8 (↑(lo8 z.f).toNat : Int)] hs1 (by kernel_rfl) (by kernel_rfl) fun b6 w17 hs2 => ?_)
  clear hs1
  have hb23 := Sat.holds hs2 [2, 3] (B := [cel sb 26 [U z.a, U z.b, U z.c, U z.d, U z.e, U z.f, U z.g, U z.h], cel kb 40 (List.map U K64)]) rfl
  refine ⟨.inl hb23, ?_⟩
  refine Reg.step 21 (by kernel_rfl) (One.appRow 1 (t := 28) (ty := 28) (e := 5) (by_ := 1) (a := a5) (cap := cap5) (m := 4) (cp := 4) (n := l5.length) (xs := List.map u8V l5) (news := [Value.int IntKind.u8 (↑(lo8 (z.f >>> 24)).toNat : Int), Value.int IntKind.u8 (↑(lo8 (z.f >>> 16)).toNat : Int), Value.int IntKind.u8 (↑(lo8 (z.f >>> 8)).toNat : Int), Value.int IntKind.u8 (↑(lo8 z.f).toNat : Int)]) (b := b6) (off := 0) hs2 rfl (by kernel_rfl) (by first | rfl | (simp; done)) (by kernel_rfl) (by first | rfl | (simp; done)) (fun j u hj => cell_row hs2 0 rfl hj) (by kernel_rfl) (by first | omega | (simp; omega)) (by first | omega | (simp; omega)) fun a6 cap6 w18 hs1 => ?_)
  simp only [List.set_cons_zero, List.set_cons_succ] at hs1
  clear hs2
  replace hs1 := Sat.selDrop hs1 4 [1, 2, 3] (by decide) (by decide)
  simp only [pickAll, List.filterMap_cons, List.filterMap_nil, List.getElem?_cons_zero, List.getElem?_cons_succ, List.cons_append, List.nil_append, List.drop_succ_cons, List.drop_zero] at hs1
  have hb24 := Sat.holds hs1 [1, 2] (B := [cel sb 26 [U z.a, U z.b, U z.c, U z.d, U z.e, U z.f, U z.g, U z.h], cel kb 40 (List.map U K64)]) rfl
  refine ⟨.inl hb24, ?_⟩
  refine Reg.pures [22] (fuel' := 0) (.inl hb24) rfl (by kernel_rfl) ?_
  refine Reg.done (by kernel_rfl) ?_
  refine To.run 6 ?_
  obtain ⟨l6, g6⟩ : ∃ l, l = l5 ++ dig4 z.f := ⟨_, rfl⟩
  refine To.known 6 _ (by kernel_rfl) (snocLen4 l5 (lo8 (z.f >>> 24)) (lo8 (z.f >>> 16)) (lo8 (z.f >>> 8)) (lo8 z.f) a6 cap6) ?_
  have hs := snoc_row4 hs1 g6
  clear hs1
  rw [show l5 ++ [lo8 (z.f >>> 24), lo8 (z.f >>> 16), lo8 (z.f >>> 8), lo8 z.f] = l6 from g6.symm]
  have n6 : l6.length = l5.length + 4 := by rw [g6]; simp [dig4]
  refine To.run 1 ?_
  refine To.at (fn := Try.f11) (n := 13) (l := [(4, Value.pointer (some { block := sb, off := 0 : Addr })), (6, Value.slice a6 l6.length cap6), (7, Value.int IntKind.i64 6)]) (by kernel_rfl) fun j => ?_
  refine To.run 10 ?_
  refine To.draw [cel sb 26 [U z.a, U z.b, U z.c, U z.d, U z.e, U z.f, U z.g, U z.h], cel kb 40 (List.map U K64)] [] 23 hs (by kernel_rfl) (by kernel_rfl) (by kernel_rfl) fun w19 hs1 => ?_
  clear hs
  have hb25 := Sat.holds hs1 [1, 2] rfl
  refine Reg.pures [0, 1, 2, 6, 7, 11, 12, 16, 17] (fuel' := 14) (.inl hb25) rfl (by kernel_rfl) ?_
  refine Reg.load 3 0 (t := 25) (off := 6) (v := Value.int IntKind.u32 (↑z.g.toNat : Int)) (.inl hb25) rfl (by kernel_rfl) (by kernel_rfl) (by kernel_rfl) ?_
  refine Reg.pures [4] (fuel' := 12) (.inl hb25) rfl (by kernel_rfl) ?_
  refine Reg.known 39 _ (by kernel_rfl) (U_shr (z.g) (24) (24) rfl) ?_
  refine Reg.pures [5] (fuel' := 11) (.inl hb25) rfl (by kernel_rfl) ?_
  refine Reg.known 40 _ (by kernel_rfl) (U_to8 (z.g >>> 24)) ?_
  refine Reg.load 8 0 (t := 25) (off := 6) (v := Value.int IntKind.u32 (↑z.g.toNat : Int)) (.inl hb25) rfl (by kernel_rfl) (by kernel_rfl) (by kernel_rfl) ?_
  refine Reg.pures [9] (fuel' := 9) (.inl hb25) rfl (by kernel_rfl) ?_
  refine Reg.known 44 _ (by kernel_rfl) (U_shr (z.g) (16) (16) rfl) ?_
  refine Reg.pures [10] (fuel' := 8) (.inl hb25) rfl (by kernel_rfl) ?_
  refine Reg.known 45 _ (by kernel_rfl) (U_to8 (z.g >>> 16)) ?_
  refine Reg.load 13 0 (t := 25) (off := 6) (v := Value.int IntKind.u32 (↑z.g.toNat : Int)) (.inl hb25) rfl (by kernel_rfl) (by kernel_rfl) (by kernel_rfl) ?_
  refine Reg.pures [14] (fuel' := 6) (.inl hb25) rfl (by kernel_rfl) ?_
  refine Reg.known 49 _ (by kernel_rfl) (U_shr (z.g) (8) (8) rfl) ?_
  refine Reg.pures [15] (fuel' := 5) (.inl hb25) rfl (by kernel_rfl) ?_
  refine Reg.known 50 _ (by kernel_rfl) (U_to8 (z.g >>> 8)) ?_
  refine Reg.step 18 (by kernel_rfl) (One.load 1 (t := 25) (off := 6) (v := Value.int IntKind.u32 (↑z.g.toNat : Int)) hs1 rfl (by kernel_rfl) (by kernel_rfl) ?_)
  have hb26 := Sat.holds hs1 [1, 2] (B := [cel sb 26 [U z.a, U z.b, U z.c, U z.d, U z.e, U z.f, U z.g, U z.h], cel kb 40 (List.map U K64)]) rfl
  refine ⟨.inl hb26, ?_⟩
  refine Reg.pures [19] (fuel' := 3) (.inl hb26) rfl (by kernel_rfl) ?_
  refine Reg.known 54 _ (by kernel_rfl) (U_to8 (z.g)) ?_
  refine Reg.step 20 (by kernel_rfl) (One.slit (t := 28) (n := 4) (parts := [(0, Value.int IntKind.u8 (↑(lo8 (z.g >>> 24)).toNat : Int)), (1, Value.int IntKind.u8 (↑(lo8 (z.g >>> 16)).toNat : Int)), (2, Value.int IntKind.u8 (↑(lo8 (z.g >>> 8)).toNat : Int)), (3, Value.int IntKind.u8 (↑(lo8 z.g).toNat : Int))]) 5 [Value.int IntKind.u8 (↑(lo8 (z.g >>> 24)).toNat : Int), Value.int IntKind.u8 (↑(lo8 (z.g >>> 16)).toNat : Int), Value.int IntKind.u8 (↑(lo8 (z.g >>> 8)).toNat : Int), Value.int IntKind.u8 (↑(lo8 z.g).toNat : Int)] hs1 (by kernel_rfl) (by kernel_rfl) fun b7 w20 hs2 => ?_)
  clear hs1
  have hb27 := Sat.holds hs2 [2, 3] (B := [cel sb 26 [U z.a, U z.b, U z.c, U z.d, U z.e, U z.f, U z.g, U z.h], cel kb 40 (List.map U K64)]) rfl
  refine ⟨.inl hb27, ?_⟩
  refine Reg.step 21 (by kernel_rfl) (One.appRow 1 (t := 28) (ty := 28) (e := 5) (by_ := 1) (a := a6) (cap := cap6) (m := 4) (cp := 4) (n := l6.length) (xs := List.map u8V l6) (news := [Value.int IntKind.u8 (↑(lo8 (z.g >>> 24)).toNat : Int), Value.int IntKind.u8 (↑(lo8 (z.g >>> 16)).toNat : Int), Value.int IntKind.u8 (↑(lo8 (z.g >>> 8)).toNat : Int), Value.int IntKind.u8 (↑(lo8 z.g).toNat : Int)]) (b := b7) (off := 0) hs2 rfl (by kernel_rfl) (by first | rfl | (simp; done)) (by kernel_rfl) (by first | rfl | (simp; done)) (fun j u hj => cell_row hs2 0 rfl hj) (by kernel_rfl) (by first | omega | (simp; omega)) (by first | omega | (simp; omega)) fun a7 cap7 w21 hs1 => ?_)
  simp only [List.set_cons_zero, List.set_cons_succ] at hs1
  clear hs2
  replace hs1 := Sat.selDrop hs1 4 [1, 2, 3] (by decide) (by decide)
  simp only [pickAll, List.filterMap_cons, List.filterMap_nil, List.getElem?_cons_zero, List.getElem?_cons_succ, List.cons_append, List.nil_append, List.drop_succ_cons, List.drop_zero] at hs1
  have hb28 := Sat.holds hs1 [1, 2] (B := [cel sb 26 [U z.a, U z.b, U z.c, U z.d, U z.e, U z.f, U z.g, U z.h], cel kb 40 (List.map U K64)]) rfl
  refine ⟨.inl hb28, ?_⟩
  refine Reg.pures [22] (fuel' := 0) (.inl hb28) rfl (by kernel_rfl) ?_
  refine Reg.done (by kernel_rfl) ?_
  refine To.run 6 ?_
  obtain ⟨l7, g7⟩ : ∃ l, l = l6 ++ dig4 z.g := ⟨_, rfl⟩
  refine To.known 6 _ (by kernel_rfl) (snocLen4 l6 (lo8 (z.g >>> 24)) (lo8 (z.g >>> 16)) (lo8 (z.g >>> 8)) (lo8 z.g) a7 cap7) ?_
  have hs := snoc_row4 hs1 g7
  clear hs1
  rw [show l6 ++ [lo8 (z.g >>> 24), lo8 (z.g >>> 16), lo8 (z.g >>> 8), lo8 z.g] = l7 from g7.symm]
  have n7 : l7.length = l6.length + 4 := by rw [g7]; simp [dig4]
  refine To.run 1 ?_
  refine To.at (fn := Try.f11) (n := 13) (l := [(4, Value.pointer (some { block := sb, off := 0 : Addr })), (6, Value.slice a7 l7.length cap7), (7, Value.int IntKind.i64 7)]) (by kernel_rfl) fun j => ?_
  refine To.run 10 ?_
  refine To.draw [cel sb 26 [U z.a, U z.b, U z.c, U z.d, U z.e, U z.f, U z.g, U z.h], cel kb 40 (List.map U K64)] [] 23 hs (by kernel_rfl) (by kernel_rfl) (by kernel_rfl) fun w22 hs1 => ?_
  clear hs
  have hb29 := Sat.holds hs1 [1, 2] rfl
  refine Reg.pures [0, 1, 2, 6, 7, 11, 12, 16, 17] (fuel' := 14) (.inl hb29) rfl (by kernel_rfl) ?_
  refine Reg.load 3 0 (t := 25) (off := 7) (v := Value.int IntKind.u32 (↑z.h.toNat : Int)) (.inl hb29) rfl (by kernel_rfl) (by kernel_rfl) (by kernel_rfl) ?_
  refine Reg.pures [4] (fuel' := 12) (.inl hb29) rfl (by kernel_rfl) ?_
  refine Reg.known 39 _ (by kernel_rfl) (U_shr (z.h) (24) (24) rfl) ?_
  refine Reg.pures [5] (fuel' := 11) (.inl hb29) rfl (by kernel_rfl) ?_
  refine Reg.known 40 _ (by kernel_rfl) (U_to8 (z.h >>> 24)) ?_
  refine Reg.load 8 0 (t := 25) (off := 7) (v := Value.int IntKind.u32 (↑z.h.toNat : Int)) (.inl hb29) rfl (by kernel_rfl) (by kernel_rfl) (by kernel_rfl) ?_
  refine Reg.pures [9] (fuel' := 9) (.inl hb29) rfl (by kernel_rfl) ?_
  refine Reg.known 44 _ (by kernel_rfl) (U_shr (z.h) (16) (16) rfl) ?_
  refine Reg.pures [10] (fuel' := 8) (.inl hb29) rfl (by kernel_rfl) ?_
  refine Reg.known 45 _ (by kernel_rfl) (U_to8 (z.h >>> 16)) ?_
  refine Reg.load 13 0 (t := 25) (off := 7) (v := Value.int IntKind.u32 (↑z.h.toNat : Int)) (.inl hb29) rfl (by kernel_rfl) (by kernel_rfl) (by kernel_rfl) ?_
  refine Reg.pures [14] (fuel' := 6) (.inl hb29) rfl (by kernel_rfl) ?_
  refine Reg.known 49 _ (by kernel_rfl) (U_shr (z.h) (8) (8) rfl) ?_
  refine Reg.pures [15] (fuel' := 5) (.inl hb29) rfl (by kernel_rfl) ?_
  refine Reg.known 50 _ (by kernel_rfl) (U_to8 (z.h >>> 8)) ?_
  refine Reg.step 18 (by kernel_rfl) (One.load 1 (t := 25) (off := 7) (v := Value.int IntKind.u32 (↑z.h.toNat : Int)) hs1 rfl (by kernel_rfl) (by kernel_rfl) ?_)
  have hb30 := Sat.holds hs1 [1, 2] (B := [cel sb 26 [U z.a, U z.b, U z.c, U z.d, U z.e, U z.f, U z.g, U z.h], cel kb 40 (List.map U K64)]) rfl
  refine ⟨.inl hb30, ?_⟩
  refine Reg.pures [19] (fuel' := 3) (.inl hb30) rfl (by kernel_rfl) ?_
  refine Reg.known 54 _ (by kernel_rfl) (U_to8 (z.h)) ?_
  refine Reg.step 20 (by kernel_rfl) (One.slit (t := 28) (n := 4) (parts := [(0, Value.int IntKind.u8 (↑(lo8 (z.h >>> 24)).toNat : Int)), (1, Value.int IntKind.u8 (↑(lo8 (z.h >>> 16)).toNat : Int)), (2, Value.int IntKind.u8 (↑(lo8 (z.h >>> 8)).toNat : Int)), (3, Value.int IntKind.u8 (↑(lo8 z.h).toNat : Int))]) 5 [Value.int IntKind.u8 (↑(lo8 (z.h >>> 24)).toNat : Int), Value.int IntKind.u8 (↑(lo8 (z.h >>> 16)).toNat : Int), Value.int IntKind.u8 (↑(lo8 (z.h >>> 8)).toNat : Int), Value.int IntKind.u8 (↑(lo8 z.h).toNat : Int)] hs1 (by kernel_rfl) (by kernel_rfl) fun b8 w23 hs2 => ?_)
  clear hs1
  have hb31 := Sat.holds hs2 [2, 3] (B := [cel sb 26 [U z.a, U z.b, U z.c, U z.d, U z.e, U z.f, U z.g, U z.h], cel kb 40 (List.map U K64)]) rfl
  refine ⟨.inl hb31, ?_⟩
  refine Reg.step 21 (by kernel_rfl) (One.appRow 1 (t := 28) (ty := 28) (e := 5) (by_ := 1) (a := a7) (cap := cap7) (m := 4) (cp := 4) (n := l7.length) (xs := List.map u8V l7) (news := [Value.int IntKind.u8 (↑(lo8 (z.h >>> 24)).toNat : Int), Value.int IntKind.u8 (↑(lo8 (z.h >>> 16)).toNat : Int), Value.int IntKind.u8 (↑(lo8 (z.h >>> 8)).toNat : Int), Value.int IntKind.u8 (↑(lo8 z.h).toNat : Int)]) (b := b8) (off := 0) hs2 rfl (by kernel_rfl) (by first | rfl | (simp; done)) (by kernel_rfl) (by first | rfl | (simp; done)) (fun j u hj => cell_row hs2 0 rfl hj) (by kernel_rfl) (by first | omega | (simp; omega)) (by first | omega | (simp; omega)) fun a8 cap8 w24 hs1 => ?_)
  simp only [List.set_cons_zero, List.set_cons_succ] at hs1
  clear hs2
  replace hs1 := Sat.selDrop hs1 4 [1, 2, 3] (by decide) (by decide)
  simp only [pickAll, List.filterMap_cons, List.filterMap_nil, List.getElem?_cons_zero, List.getElem?_cons_succ, List.cons_append, List.nil_append, List.drop_succ_cons, List.drop_zero] at hs1
  have hb32 := Sat.holds hs1 [1, 2] (B := [cel sb 26 [U z.a, U z.b, U z.c, U z.d, U z.e, U z.f, U z.g, U z.h], cel kb 40 (List.map U K64)]) rfl
  refine ⟨.inl hb32, ?_⟩
  refine Reg.pures [22] (fuel' := 0) (.inl hb32) rfl (by kernel_rfl) ?_
  refine Reg.done (by kernel_rfl) ?_
  refine To.run 6 ?_
  obtain ⟨l8, g8⟩ : ∃ l, l = l7 ++ dig4 z.h := ⟨_, rfl⟩
  refine To.known 6 _ (by kernel_rfl) (snocLen4 l7 (lo8 (z.h >>> 24)) (lo8 (z.h >>> 16)) (lo8 (z.h >>> 8)) (lo8 z.h) a8 cap8) ?_
  have hs := snoc_row4 hs1 g8
  clear hs1
  rw [show l7 ++ [lo8 (z.h >>> 24), lo8 (z.h >>> 16), lo8 (z.h >>> 8), lo8 z.h] = l8 from g8.symm]
  have n8 : l8.length = l7.length + 4 := by rw [g8]; simp [dig4]
  refine To.run 1 ?_
  refine To.at (fn := Try.f11) (n := 13) (l := [(4, Value.pointer (some { block := sb, off := 0 : Addr })), (6, Value.slice a8 l8.length cap8), (7, Value.int IntKind.i64 8)]) (by kernel_rfl) fun j => ?_
  refine To.run 11 ?_
  refine To.one (One.b2s 0 (src := 28) (dst := 9) (a := a8) (cap := cap8) (n := l8.length) (e := 5) (l8) hs rfl (by kernel_rfl) (by first | rfl | (simp; done)) (by kernel_rfl) (by kernel_rfl) ?_)
  refine To.run 2 ?_
  refine To.retv Try.func11 (by kernel_rfl) (v := Value.string { data := l8.toArray : ByteArray }) (by kernel_rfl) ?_
  have hfin : digest z = l8 := by
    rw [g8, g7, g6, g5, g4, g3, g2, g1, g0]
    simp [digest, St8.list]
  exact ⟨_, _, rfl, ⟨by rw [hfin], rfl⟩, hs.sub (((List.sublist_cons_self _ _).cons _).cons _)⟩

theorem RSum_ok (s : ByteArray) (hs0 : s.size ≤ 4000000) : Trip Try.prog 11 [.string s] [] (fun v l => v = .string ⟨(sumL s.data.toList).toArray⟩ ∧ l = []) := by
  refine Trip.of Try.func11 (by kernel_rfl) fun E w L hs => ?_
  simp only [List.nil_append] at hs
  have hz := padZ_lt (s.size : Int)
  obtain ⟨p, hp⟩ : ∃ p : ByteArray, p = ⟨(padL (s.size : Int)).toArray⟩ := ⟨_, rfl⟩
  have hpl : p.data.toList = padL (s.size : Int) := by rw [hp]
  have hps : p.size = padZ (s.size : Int) + 9 := by rw [size_list, hpl, padL_len]
  have c1 := RPad_ok (s.size : Int) (by omega) (by omega)
  rw [← hp] at c1
  have hw := pad_whole s.size
  have hN : (s.size + (padL (s.size : Int)).length) / 64 ≤ 100000 := by rw [padL_len]; omega
  have hsz : (s ++ p).size = 64 * ((s.size + (padL (s.size : Int)).length) / 64) := by
    rw [ByteArray.size_append, size_list p, hpl]
    omega
  refine To.run 10 ?_
  refine To.known 11 (v := .int .u64 (IntKind.u64.wrap ((↑s.size : Int)))) (.int .u64 ((↑s.size : Int))) (by kernel_rfl) (by rw [wrap_u64 (by omega) (by omega)]) ?_
  refine To.one (One.call 0 [] [] (g := 17) (args := [Value.int IntKind.u64 (↑s.size : Int)]) (by kernel_rfl) hs (c1) (by decide) rfl ?_)
  rintro _ _ w1 ⟨rfl, rfl⟩ hs1
  simp only [pickAll, List.filterMap_cons, List.filterMap_nil, List.getElem?_cons_zero, List.getElem?_cons_succ, List.cons_append, List.nil_append, List.drop_succ_cons, List.drop_zero] at hs1
  clear hs
  refine To.one (One.cat (t := 9) (x := s) (y := p) (by kernel_rfl) (by first | omega | (simp; omega)) ?_)
  refine To.run 4 ?_
  refine To.one (One.call 0 [] [] (g := 20) (args := []) (by kernel_rfl) hs1 (Table_ok) (by decide) rfl ?_)
  rintro _ _ w2 ⟨rfl, rfl⟩ hs2
  simp only [pickAll, List.filterMap_cons, List.filterMap_nil, List.getElem?_cons_zero, List.getElem?_cons_succ, List.cons_append, List.nil_append, List.drop_succ_cons, List.drop_zero] at hs2
  clear hs1
  refine To.one (One.alloc (t := 40) [Value.int IntKind.u32 0, Value.int IntKind.u32 0, Value.int IntKind.u32 0, Value.int IntKind.u32 0, Value.int IntKind.u32 0, Value.int IntKind.u32 0, Value.int IntKind.u32 0, Value.int IntKind.u32 0, Value.int IntKind.u32 0, Value.int IntKind.u32 0, Value.int IntKind.u32 0, Value.int IntKind.u32 0, Value.int IntKind.u32 0, Value.int IntKind.u32 0, Value.int IntKind.u32 0, Value.int IntKind.u32 0, Value.int IntKind.u32 0, Value.int IntKind.u32 0, Value.int IntKind.u32 0, Value.int IntKind.u32 0, Value.int IntKind.u32 0, Value.int IntKind.u32 0, Value.int IntKind.u32 0, Value.int IntKind.u32 0, Value.int IntKind.u32 0, Value.int IntKind.u32 0, Value.int IntKind.u32 0, Value.int IntKind.u32 0, Value.int IntKind.u32 0, Value.int IntKind.u32 0, Value.int IntKind.u32 0, Value.int IntKind.u32 0, Value.int IntKind.u32 0, Value.int IntKind.u32 0, Value.int IntKind.u32 0, Value.int IntKind.u32 0, Value.int IntKind.u32 0, Value.int IntKind.u32 0, Value.int IntKind.u32 0, Value.int IntKind.u32 0, Value.int IntKind.u32 0, Value.int IntKind.u32 0, Value.int IntKind.u32 0, Value.int IntKind.u32 0, Value.int IntKind.u32 0, Value.int IntKind.u32 0, Value.int IntKind.u32 0, Value.int IntKind.u32 0, Value.int IntKind.u32 0, Value.int IntKind.u32 0, Value.int IntKind.u32 0, Value.int IntKind.u32 0, Value.int IntKind.u32 0, Value.int IntKind.u32 0, Value.int IntKind.u32 0, Value.int IntKind.u32 0, Value.int IntKind.u32 0, Value.int IntKind.u32 0, Value.int IntKind.u32 0, Value.int IntKind.u32 0, Value.int IntKind.u32 0, Value.int IntKind.u32 0, Value.int IntKind.u32 0, Value.int IntKind.u32 0] hs2 (by kernel_rfl) (by kernel_rfl) fun b1 w3 hs1 => ?_)
  clear hs2
  refine To.one (One.store 0 (t := 40) (off := 0) (v := Value.agg #[Value.int IntKind.u32 1116352408, Value.int IntKind.u32 1899447441, Value.int IntKind.u32 3049323471, Value.int IntKind.u32 3921009573, Value.int IntKind.u32 961987163, Value.int IntKind.u32 1508970993, Value.int IntKind.u32 2453635748, Value.int IntKind.u32 2870763221, Value.int IntKind.u32 3624381080, Value.int IntKind.u32 310598401, Value.int IntKind.u32 607225278, Value.int IntKind.u32 1426881987, Value.int IntKind.u32 1925078388, Value.int IntKind.u32 2162078206, Value.int IntKind.u32 2614888103, Value.int IntKind.u32 3248222580, Value.int IntKind.u32 3835390401, Value.int IntKind.u32 4022224774, Value.int IntKind.u32 264347078, Value.int IntKind.u32 604807628, Value.int IntKind.u32 770255983, Value.int IntKind.u32 1249150122, Value.int IntKind.u32 1555081692, Value.int IntKind.u32 1996064986, Value.int IntKind.u32 2554220882, Value.int IntKind.u32 2821834349, Value.int IntKind.u32 2952996808, Value.int IntKind.u32 3210313671, Value.int IntKind.u32 3336571891, Value.int IntKind.u32 3584528711, Value.int IntKind.u32 113926993, Value.int IntKind.u32 338241895, Value.int IntKind.u32 666307205, Value.int IntKind.u32 773529912, Value.int IntKind.u32 1294757372, Value.int IntKind.u32 1396182291, Value.int IntKind.u32 1695183700, Value.int IntKind.u32 1986661051, Value.int IntKind.u32 2177026350, Value.int IntKind.u32 2456956037, Value.int IntKind.u32 2730485921, Value.int IntKind.u32 2820302411, Value.int IntKind.u32 3259730800, Value.int IntKind.u32 3345764771, Value.int IntKind.u32 3516065817, Value.int IntKind.u32 3600352804, Value.int IntKind.u32 4094571909, Value.int IntKind.u32 275423344, Value.int IntKind.u32 430227734, Value.int IntKind.u32 506948616, Value.int IntKind.u32 659060556, Value.int IntKind.u32 883997877, Value.int IntKind.u32 958139571, Value.int IntKind.u32 1322822218, Value.int IntKind.u32 1537002063, Value.int IntKind.u32 1747873779, Value.int IntKind.u32 1955562222, Value.int IntKind.u32 2024104815, Value.int IntKind.u32 2227730452, Value.int IntKind.u32 2361852424, Value.int IntKind.u32 2428436474, Value.int IntKind.u32 2756734187, Value.int IntKind.u32 3204031479, Value.int IntKind.u32 3329325298]) (vs' := [Value.int IntKind.u32 1116352408, Value.int IntKind.u32 1899447441, Value.int IntKind.u32 3049323471, Value.int IntKind.u32 3921009573, Value.int IntKind.u32 961987163, Value.int IntKind.u32 1508970993, Value.int IntKind.u32 2453635748, Value.int IntKind.u32 2870763221, Value.int IntKind.u32 3624381080, Value.int IntKind.u32 310598401, Value.int IntKind.u32 607225278, Value.int IntKind.u32 1426881987, Value.int IntKind.u32 1925078388, Value.int IntKind.u32 2162078206, Value.int IntKind.u32 2614888103, Value.int IntKind.u32 3248222580, Value.int IntKind.u32 3835390401, Value.int IntKind.u32 4022224774, Value.int IntKind.u32 264347078, Value.int IntKind.u32 604807628, Value.int IntKind.u32 770255983, Value.int IntKind.u32 1249150122, Value.int IntKind.u32 1555081692, Value.int IntKind.u32 1996064986, Value.int IntKind.u32 2554220882, Value.int IntKind.u32 2821834349, Value.int IntKind.u32 2952996808, Value.int IntKind.u32 3210313671, Value.int IntKind.u32 3336571891, Value.int IntKind.u32 3584528711, Value.int IntKind.u32 113926993, Value.int IntKind.u32 338241895, Value.int IntKind.u32 666307205, Value.int IntKind.u32 773529912, Value.int IntKind.u32 1294757372, Value.int IntKind.u32 1396182291, Value.int IntKind.u32 1695183700, Value.int IntKind.u32 1986661051, Value.int IntKind.u32 2177026350, Value.int IntKind.u32 2456956037, Value.int IntKind.u32 2730485921, Value.int IntKind.u32 2820302411, Value.int IntKind.u32 3259730800, Value.int IntKind.u32 3345764771, Value.int IntKind.u32 3516065817, Value.int IntKind.u32 3600352804, Value.int IntKind.u32 4094571909, Value.int IntKind.u32 275423344, Value.int IntKind.u32 430227734, Value.int IntKind.u32 506948616, Value.int IntKind.u32 659060556, Value.int IntKind.u32 883997877, Value.int IntKind.u32 958139571, Value.int IntKind.u32 1322822218, Value.int IntKind.u32 1537002063, Value.int IntKind.u32 1747873779, Value.int IntKind.u32 1955562222, Value.int IntKind.u32 2024104815, Value.int IntKind.u32 2227730452, Value.int IntKind.u32 2361852424, Value.int IntKind.u32 2428436474, Value.int IntKind.u32 2756734187, Value.int IntKind.u32 3204031479, Value.int IntKind.u32 3329325298]) hs1 rfl (by kernel_rfl) (by kernel_rfl) (by kernel_rfl) fun w4 hs2 => ?_)
  simp only [List.set_cons_zero, List.set_cons_succ] at hs2
  clear hs1
  refine To.run 3 ?_
  refine To.one (One.call 1 [] [0] (g := 19) (args := []) (by kernel_rfl) hs2 (RStart_ok) (by decide) rfl ?_)
  rintro _ _ w5 ⟨rfl, rfl⟩ hs1
  simp only [pickAll, List.filterMap_cons, List.filterMap_nil, List.getElem?_cons_zero, List.getElem?_cons_succ, List.cons_append, List.nil_append, List.drop_succ_cons, List.drop_zero] at hs1
  clear hs2
  refine To.one (One.alloc (t := 26) [Value.int IntKind.u32 0, Value.int IntKind.u32 0, Value.int IntKind.u32 0, Value.int IntKind.u32 0, Value.int IntKind.u32 0, Value.int IntKind.u32 0, Value.int IntKind.u32 0, Value.int IntKind.u32 0] hs1 (by kernel_rfl) (by kernel_rfl) fun b2 w6 hs2 => ?_)
  clear hs1
  refine To.one (One.store 0 (t := 26) (off := 0) (v := Value.agg #[Value.int IntKind.u32 1779033703, Value.int IntKind.u32 3144134277, Value.int IntKind.u32 1013904242, Value.int IntKind.u32 2773480762, Value.int IntKind.u32 1359893119, Value.int IntKind.u32 2600822924, Value.int IntKind.u32 528734635, Value.int IntKind.u32 1541459225]) (vs' := [Value.int IntKind.u32 1779033703, Value.int IntKind.u32 3144134277, Value.int IntKind.u32 1013904242, Value.int IntKind.u32 2773480762, Value.int IntKind.u32 1359893119, Value.int IntKind.u32 2600822924, Value.int IntKind.u32 528734635, Value.int IntKind.u32 1541459225]) hs2 rfl (by kernel_rfl) (by kernel_rfl) (by kernel_rfl) fun w7 hs1 => ?_)
  simp only [List.set_cons_zero, List.set_cons_succ] at hs1
  clear hs2
  refine To.run 7 ?_
  refine To.run 1 ?_
  refine To.at (fn := Try.f11) (n := 6) (l := [(0, Value.string (s ++ p)), (3, Value.pointer (some { block := b1, off := 0 : Addr })), (4, Value.pointer (some { block := b2, off := 0 : Addr })), (5, Value.int IntKind.i64 0)]) (by kernel_rfl) fun j => ?_
  have hs9 : Sat E w7 (cel b2 26 (st0.list.map U) :: cel b1 40 (K64.map U) :: L) := hs1
  have e : sumL s.data.toList = digest (blocksS st0 (s.data.toList ++ padL (s.size : Int)) ((s.size + (padL (s.size : Int)).length) / 64)) := by
    unfold sumL
    rw [← size_list]
  rw [e]
  have h := RSum_loop E _ L b2 b1 (s ++ p) _ hsz hN (blocksS st0 (s.data.toList ++ padL (s.size : Int)) ((s.size + (padL (s.size : Int)).length) / 64)) (fun j w hs => RSum_end E L b2 b1 _ _ hsz hN _ j w hs) _ 0 st0 j _ (Nat.zero_add _) (by rw [Nat.mul_zero, List.drop_zero, app_list, hpl]) hs9
  exact h
end Go.Proofs.Ytkddomellpldjaa
