import Derived.Test.YtkddomellpldjaaProg
import Derived.Test.YtkddomellpldjaaSxStr
import Derived.Test.YtkddomellpldjaaSex
import Derived.Test.YtkddomellpldjaaSrsum
import Derived.ChangeKeysEq
import Derived.Test.YtkddomellpldjaaSxLaw
set_option linter.unusedSimpArgs false
set_option linter.unusedVariables false
namespace Go.Proofs.Ytkddomellpldjaa
open Go Go.Sx
set_option linter.unusedSimpArgs false
set_option maxHeartbeats 0
set_option maxRecDepth 20000


set_option maxHeartbeats 400000 in
/-- Two equal states are equal. -/
theorem eql8 (w : World) (a b c d e f g h : Int) :
    (binOp .eql 26 (.agg #[.int .u32 a, .int .u32 b, .int .u32 c, .int .u32 d, .int .u32 e, .int .u32 f, .int .u32 g, .int .u32 h]) (.agg #[.int .u32 a, .int .u32 b, .int .u32 c, .int .u32 d, .int .u32 e, .int .u32 f, .int .u32 g, .int .u32 h])).run Try.prog w = .ok (.bool true) w := by
  obtain ⟨i, hi⟩ := info_of_underlying (P := Try.prog) Try.underlying25
  rw [run_eql_struct, run_equalIn_array w 9999 (e := 25) (n := 8) _ _ (by kernel_rfl) hi]
  have hc : Try.prog.cellsOf 25 = 1 := by kernel_rfl
  rw [hc]
  have hq : ∀ (xs : Array Value) (x : Nat) (v : Int), xs[x]? = some (.int .u32 v) → ∀ is, (Op.eqItems 9999 25 1 xs xs is).run Try.prog w = .ok true w → (Op.eqItems 9999 25 1 xs xs (x :: is)).run Try.prog w = .ok true w := by
    intro xs x v hx is his
    have := run_part_plain (P := Try.prog) w (e := 25) (by kernel_rfl) (xs := xs) (off := x * 1) (v := .int .u32 v) (by rw [Nat.mul_one]; exact hx)
    simp only [Op.eqItems, Sem.run_bind, this, Result.andThen_ok, run_equalIn_int (P := Try.prog) w 9998 25 .u32 .u32 v v (by kernel_rfl)]
    simpa using his
  have : List.range 8 = [0, 1, 2, 3, 4, 5, 6, 7] := rfl
  rw [this, hq _ 0 _ rfl _ (hq _ 1 _ rfl _ (hq _ 2 _ rfl _ (hq _ 3 _ rfl _ (hq _ 4 _ rfl _ (hq _ 5 _ rfl _ (hq _ 6 _ rfl _ (hq _ 7 _ rfl _ rfl)))))))]
  rfl

theorem guard8 (w : World) (op : BinOp) (xs ys : Array Value) (a b : Operand) : (eqGuard op 26 a b (.agg xs) (.agg ys)).run Try.prog w = .ok () w :=
  run_eqGuard_agg w op 26 a b xs ys (by kernel_rfl)

theorem One.eql8 {c : Cfg} {w : World} {K : Value → World → Prop} (x1 x2 x3 x4 x5 x6 x7 x8 : Int)
    (hv : c.view = some (.bin .eql 26 (.agg #[.int .u32 x1, .int .u32 x2, .int .u32 x3, .int .u32 x4, .int .u32 x5, .int .u32 x6, .int .u32 x7, .int .u32 x8]) (.agg #[.int .u32 x1, .int .u32 x2, .int .u32 x3, .int .u32 x4, .int .u32 x5, .int .u32 x6, .int .u32 x7, .int .u32 x8])))
    (h : K (.bool true) w) : One Try.prog c w K :=
  One.bin' hv (fun x y => guard8 _ _ _ _ x y) (Ytkddomellpldjaa.eql8 _ _ _ _ _ _ _ _ _) h

theorem LB_main (W : World) (s : St8) (b : ByteArray) (many : Int) (h0 : 0 ≤ many) (h1 : many ≤ 18446744073709551615) (sb : Nat) (j : Nat → Value) (w : World) (hs : Sat W w [cel sb 26 (s.list.map U), old W]) :
    To Try.prog 4 (Cfg.here Try.f4 5 j [(1, .string b), (3, .int .u64 many), (4, .pointer (some ⟨sb, 0, none⟩)), (9, .bool true)]) w (LawEnd W) := by
  obtain ⟨P, hP⟩ : ∃ A : ByteArray, A = ⟨(padL many).toArray⟩ := ⟨_, rfl⟩
  have c3 := Pad_ok many h0 h1
  have c4 := RPad_ok many h0 h1
  rw [← hP] at c3 c4
  have e1 : (P.toList == P.toList) = true := by rw [beq_self_eq_true]
  clear hP
  by_cases hb : b.size = 64
  · have c1 := Block_ok s b hb
    have c2 := RBlk_ok s b hb
    obtain ⟨s', hs'⟩ : ∃ s', blockS s b.data.toList = s' := ⟨_, rfl⟩
    rw [hs'] at c1 c2
    unfold St8.list at hs
    simp only [List.map_cons, List.map_nil] at hs
    refine To.run 2 ?_
    refine To.one (One.load 0 (t := 26) (off := 0) (v := Value.agg #[Value.int IntKind.u32 (↑s.a.toNat : Int), Value.int IntKind.u32 (↑s.b.toNat : Int), Value.int IntKind.u32 (↑s.c.toNat : Int), Value.int IntKind.u32 (↑s.d.toNat : Int), Value.int IntKind.u32 (↑s.e.toNat : Int), Value.int IntKind.u32 (↑s.f.toNat : Int), Value.int IntKind.u32 (↑s.g.toNat : Int), Value.int IntKind.u32 (↑s.h.toNat : Int)]) hs rfl (by kernel_rfl) (by kernel_rfl) ?_)
    refine To.run 1 ?_
    refine To.one (One.call 2 [] [0, 1] (g := 14) (args := [Value.agg #[Value.int IntKind.u32 (↑s.a.toNat : Int), Value.int IntKind.u32 (↑s.b.toNat : Int), Value.int IntKind.u32 (↑s.c.toNat : Int), Value.int IntKind.u32 (↑s.d.toNat : Int), Value.int IntKind.u32 (↑s.e.toNat : Int), Value.int IntKind.u32 (↑s.f.toNat : Int), Value.int IntKind.u32 (↑s.g.toNat : Int), Value.int IntKind.u32 (↑s.h.toNat : Int)], Value.string b]) (by kernel_rfl) hs (c1) (by decide) rfl ?_)
    rintro _ _ w1 ⟨rfl, rfl⟩ hs1
    simp only [pickAll, List.filterMap_cons, List.filterMap_nil, List.getElem?_cons_zero, List.getElem?_cons_succ, List.cons_append, List.nil_append, List.drop_succ_cons, List.drop_zero] at hs1
    clear hs
    refine To.run 3 ?_
    refine To.one (One.alloc (t := 26) [Value.int IntKind.u32 0, Value.int IntKind.u32 0, Value.int IntKind.u32 0, Value.int IntKind.u32 0, Value.int IntKind.u32 0, Value.int IntKind.u32 0, Value.int IntKind.u32 0, Value.int IntKind.u32 0] hs1 (by kernel_rfl) (by kernel_rfl) fun b1 w2 hs2 => ?_)
    clear hs1
    refine To.one (One.store 0 (t := 26) (off := 0) (v := Value.agg #[Value.int IntKind.u32 (↑s'.a.toNat : Int), Value.int IntKind.u32 (↑s'.b.toNat : Int), Value.int IntKind.u32 (↑s'.c.toNat : Int), Value.int IntKind.u32 (↑s'.d.toNat : Int), Value.int IntKind.u32 (↑s'.e.toNat : Int), Value.int IntKind.u32 (↑s'.f.toNat : Int), Value.int IntKind.u32 (↑s'.g.toNat : Int), Value.int IntKind.u32 (↑s'.h.toNat : Int)]) (vs' := [Value.int IntKind.u32 (↑s'.a.toNat : Int), Value.int IntKind.u32 (↑s'.b.toNat : Int), Value.int IntKind.u32 (↑s'.c.toNat : Int), Value.int IntKind.u32 (↑s'.d.toNat : Int), Value.int IntKind.u32 (↑s'.e.toNat : Int), Value.int IntKind.u32 (↑s'.f.toNat : Int), Value.int IntKind.u32 (↑s'.g.toNat : Int), Value.int IntKind.u32 (↑s'.h.toNat : Int)]) hs2 rfl (by kernel_rfl) (by kernel_rfl) (by kernel_rfl) fun w3 hs1 => ?_)
    simp only [List.set_cons_zero, List.set_cons_succ] at hs1
    clear hs2
    refine To.run 4 ?_
    refine To.one (One.load 1 (t := 26) (off := 0) (v := Value.agg #[Value.int IntKind.u32 (↑s.a.toNat : Int), Value.int IntKind.u32 (↑s.b.toNat : Int), Value.int IntKind.u32 (↑s.c.toNat : Int), Value.int IntKind.u32 (↑s.d.toNat : Int), Value.int IntKind.u32 (↑s.e.toNat : Int), Value.int IntKind.u32 (↑s.f.toNat : Int), Value.int IntKind.u32 (↑s.g.toNat : Int), Value.int IntKind.u32 (↑s.h.toNat : Int)]) hs1 rfl (by kernel_rfl) (by kernel_rfl) ?_)
    refine To.run 1 ?_
    refine To.one (One.call 3 [] [0, 1, 2] (g := 15) (args := [Value.agg #[Value.int IntKind.u32 (↑s.a.toNat : Int), Value.int IntKind.u32 (↑s.b.toNat : Int), Value.int IntKind.u32 (↑s.c.toNat : Int), Value.int IntKind.u32 (↑s.d.toNat : Int), Value.int IntKind.u32 (↑s.e.toNat : Int), Value.int IntKind.u32 (↑s.f.toNat : Int), Value.int IntKind.u32 (↑s.g.toNat : Int), Value.int IntKind.u32 (↑s.h.toNat : Int)], Value.string b]) (by kernel_rfl) hs1 (c2) (by decide) rfl ?_)
    rintro _ _ w4 ⟨rfl, rfl⟩ hs2
    simp only [pickAll, List.filterMap_cons, List.filterMap_nil, List.getElem?_cons_zero, List.getElem?_cons_succ, List.cons_append, List.nil_append, List.drop_succ_cons, List.drop_zero] at hs2
    clear hs1
    refine To.run 3 ?_
    refine To.one (One.alloc (t := 26) [Value.int IntKind.u32 0, Value.int IntKind.u32 0, Value.int IntKind.u32 0, Value.int IntKind.u32 0, Value.int IntKind.u32 0, Value.int IntKind.u32 0, Value.int IntKind.u32 0, Value.int IntKind.u32 0] hs2 (by kernel_rfl) (by kernel_rfl) fun b2 w5 hs1 => ?_)
    clear hs2
    refine To.one (One.store 0 (t := 26) (off := 0) (v := Value.agg #[Value.int IntKind.u32 (↑s'.a.toNat : Int), Value.int IntKind.u32 (↑s'.b.toNat : Int), Value.int IntKind.u32 (↑s'.c.toNat : Int), Value.int IntKind.u32 (↑s'.d.toNat : Int), Value.int IntKind.u32 (↑s'.e.toNat : Int), Value.int IntKind.u32 (↑s'.f.toNat : Int), Value.int IntKind.u32 (↑s'.g.toNat : Int), Value.int IntKind.u32 (↑s'.h.toNat : Int)]) (vs' := [Value.int IntKind.u32 (↑s'.a.toNat : Int), Value.int IntKind.u32 (↑s'.b.toNat : Int), Value.int IntKind.u32 (↑s'.c.toNat : Int), Value.int IntKind.u32 (↑s'.d.toNat : Int), Value.int IntKind.u32 (↑s'.e.toNat : Int), Value.int IntKind.u32 (↑s'.f.toNat : Int), Value.int IntKind.u32 (↑s'.g.toNat : Int), Value.int IntKind.u32 (↑s'.h.toNat : Int)]) hs1 rfl (by kernel_rfl) (by kernel_rfl) (by kernel_rfl) fun w6 hs2 => ?_)
    simp only [List.set_cons_zero, List.set_cons_succ] at hs2
    clear hs1
    refine To.run 6 ?_
    refine To.one (One.load 1 (t := 26) (off := 0) (v := Value.agg #[Value.int IntKind.u32 (↑s'.a.toNat : Int), Value.int IntKind.u32 (↑s'.b.toNat : Int), Value.int IntKind.u32 (↑s'.c.toNat : Int), Value.int IntKind.u32 (↑s'.d.toNat : Int), Value.int IntKind.u32 (↑s'.e.toNat : Int), Value.int IntKind.u32 (↑s'.f.toNat : Int), Value.int IntKind.u32 (↑s'.g.toNat : Int), Value.int IntKind.u32 (↑s'.h.toNat : Int)]) hs2 rfl (by kernel_rfl) (by kernel_rfl) ?_)
    refine To.one (One.load 0 (t := 26) (off := 0) (v := Value.agg #[Value.int IntKind.u32 (↑s'.a.toNat : Int), Value.int IntKind.u32 (↑s'.b.toNat : Int), Value.int IntKind.u32 (↑s'.c.toNat : Int), Value.int IntKind.u32 (↑s'.d.toNat : Int), Value.int IntKind.u32 (↑s'.e.toNat : Int), Value.int IntKind.u32 (↑s'.f.toNat : Int), Value.int IntKind.u32 (↑s'.g.toNat : Int), Value.int IntKind.u32 (↑s'.h.toNat : Int)]) hs2 rfl (by kernel_rfl) (by kernel_rfl) ?_)
    refine To.one (One.eql8 s'.a.toNat s'.b.toNat s'.c.toNat s'.d.toNat s'.e.toNat s'.f.toNat s'.g.toNat s'.h.toNat (by kernel_rfl) ?_)
    refine To.run 8 ?_
    refine To.one (One.call 4 [] [0, 1, 2, 3] (g := 16) (args := [Value.int IntKind.u64 many]) (by kernel_rfl) hs2 (c3) (by decide) rfl ?_)
    rintro _ _ w7 ⟨rfl, rfl⟩ hs1
    simp only [pickAll, List.filterMap_cons, List.filterMap_nil, List.getElem?_cons_zero, List.getElem?_cons_succ, List.cons_append, List.nil_append, List.drop_succ_cons, List.drop_zero] at hs1
    clear hs2
    refine To.run 1 ?_
    refine To.one (One.call 4 [] [0, 1, 2, 3] (g := 17) (args := [Value.int IntKind.u64 many]) (by kernel_rfl) hs1 (c4) (by decide) rfl ?_)
    rintro _ _ w8 ⟨rfl, rfl⟩ hs2
    simp only [pickAll, List.filterMap_cons, List.filterMap_nil, List.getElem?_cons_zero, List.getElem?_cons_succ, List.cons_append, List.nil_append, List.drop_succ_cons, List.drop_zero] at hs2
    clear hs1
    refine To.run 3 ?_
    refine To.isTrue 53 (t := P.toList == P.toList) (by kernel_rfl) (by assumption) ?_
    refine To.one (One.call 4 [] [0, 1, 2, 3] (g := 18) (args := []) (by kernel_rfl) hs2 (Start_ok) (by decide) rfl ?_)
    rintro _ _ w9 ⟨rfl, rfl⟩ hs1
    simp only [pickAll, List.filterMap_cons, List.filterMap_nil, List.getElem?_cons_zero, List.getElem?_cons_succ, List.cons_append, List.nil_append, List.drop_succ_cons, List.drop_zero] at hs1
    clear hs2
    refine To.one (One.call 4 [] [0, 1, 2, 3] (g := 19) (args := []) (by kernel_rfl) hs1 (RStart_ok) (by decide) rfl ?_)
    rintro _ _ w10 ⟨rfl, rfl⟩ hs2
    simp only [pickAll, List.filterMap_cons, List.filterMap_nil, List.getElem?_cons_zero, List.getElem?_cons_succ, List.cons_append, List.nil_append, List.drop_succ_cons, List.drop_zero] at hs2
    clear hs1
    refine To.run 4 ?_
    refine To.retv Try.func4 (by kernel_rfl) (v := Value.bool true) (by kernel_rfl) ?_
    first | exact hs1.lawEnd 3 rfl | exact hs2.lawEnd 3 rfl
  · have c1 := Block_no s b hb
    have c2 := RBlk_no s b hb
    unfold St8.list at hs
    simp only [List.map_cons, List.map_nil] at hs
    refine To.run 2 ?_
    refine To.one (One.load 0 (t := 26) (off := 0) (v := Value.agg #[Value.int IntKind.u32 (↑s.a.toNat : Int), Value.int IntKind.u32 (↑s.b.toNat : Int), Value.int IntKind.u32 (↑s.c.toNat : Int), Value.int IntKind.u32 (↑s.d.toNat : Int), Value.int IntKind.u32 (↑s.e.toNat : Int), Value.int IntKind.u32 (↑s.f.toNat : Int), Value.int IntKind.u32 (↑s.g.toNat : Int), Value.int IntKind.u32 (↑s.h.toNat : Int)]) hs rfl (by kernel_rfl) (by kernel_rfl) ?_)
    refine To.run 1 ?_
    refine To.one (One.call 2 [] [0, 1] (g := 14) (args := [Value.agg #[Value.int IntKind.u32 (↑s.a.toNat : Int), Value.int IntKind.u32 (↑s.b.toNat : Int), Value.int IntKind.u32 (↑s.c.toNat : Int), Value.int IntKind.u32 (↑s.d.toNat : Int), Value.int IntKind.u32 (↑s.e.toNat : Int), Value.int IntKind.u32 (↑s.f.toNat : Int), Value.int IntKind.u32 (↑s.g.toNat : Int), Value.int IntKind.u32 (↑s.h.toNat : Int)], Value.string b]) (by kernel_rfl) hs (c1) (by decide) rfl ?_)
    rintro _ _ w1 ⟨rfl, rfl⟩ hs1
    simp only [pickAll, List.filterMap_cons, List.filterMap_nil, List.getElem?_cons_zero, List.getElem?_cons_succ, List.cons_append, List.nil_append, List.drop_succ_cons, List.drop_zero] at hs1
    clear hs
    refine To.run 3 ?_
    refine To.one (One.alloc (t := 26) [Value.int IntKind.u32 0, Value.int IntKind.u32 0, Value.int IntKind.u32 0, Value.int IntKind.u32 0, Value.int IntKind.u32 0, Value.int IntKind.u32 0, Value.int IntKind.u32 0, Value.int IntKind.u32 0] hs1 (by kernel_rfl) (by kernel_rfl) fun b1 w2 hs2 => ?_)
    clear hs1
    refine To.one (One.store 0 (t := 26) (off := 0) (v := Value.agg #[Value.int IntKind.u32 0, Value.int IntKind.u32 0, Value.int IntKind.u32 0, Value.int IntKind.u32 0, Value.int IntKind.u32 0, Value.int IntKind.u32 0, Value.int IntKind.u32 0, Value.int IntKind.u32 0]) (vs' := [Value.int IntKind.u32 0, Value.int IntKind.u32 0, Value.int IntKind.u32 0, Value.int IntKind.u32 0, Value.int IntKind.u32 0, Value.int IntKind.u32 0, Value.int IntKind.u32 0, Value.int IntKind.u32 0]) hs2 rfl (by kernel_rfl) (by kernel_rfl) (by kernel_rfl) fun w3 hs1 => ?_)
    simp only [List.set_cons_zero, List.set_cons_succ] at hs1
    clear hs2
    refine To.run 4 ?_
    refine To.one (One.load 1 (t := 26) (off := 0) (v := Value.agg #[Value.int IntKind.u32 (↑s.a.toNat : Int), Value.int IntKind.u32 (↑s.b.toNat : Int), Value.int IntKind.u32 (↑s.c.toNat : Int), Value.int IntKind.u32 (↑s.d.toNat : Int), Value.int IntKind.u32 (↑s.e.toNat : Int), Value.int IntKind.u32 (↑s.f.toNat : Int), Value.int IntKind.u32 (↑s.g.toNat : Int), Value.int IntKind.u32 (↑s.h.toNat : Int)]) hs1 rfl (by kernel_rfl) (by kernel_rfl) ?_)
    refine To.run 1 ?_
    refine To.one (One.call 3 [] [0, 1, 2] (g := 15) (args := [Value.agg #[Value.int IntKind.u32 (↑s.a.toNat : Int), Value.int IntKind.u32 (↑s.b.toNat : Int), Value.int IntKind.u32 (↑s.c.toNat : Int), Value.int IntKind.u32 (↑s.d.toNat : Int), Value.int IntKind.u32 (↑s.e.toNat : Int), Value.int IntKind.u32 (↑s.f.toNat : Int), Value.int IntKind.u32 (↑s.g.toNat : Int), Value.int IntKind.u32 (↑s.h.toNat : Int)], Value.string b]) (by kernel_rfl) hs1 (c2) (by decide) rfl ?_)
    rintro _ _ w4 ⟨rfl, rfl⟩ hs2
    simp only [pickAll, List.filterMap_cons, List.filterMap_nil, List.getElem?_cons_zero, List.getElem?_cons_succ, List.cons_append, List.nil_append, List.drop_succ_cons, List.drop_zero] at hs2
    clear hs1
    refine To.run 3 ?_
    refine To.one (One.alloc (t := 26) [Value.int IntKind.u32 0, Value.int IntKind.u32 0, Value.int IntKind.u32 0, Value.int IntKind.u32 0, Value.int IntKind.u32 0, Value.int IntKind.u32 0, Value.int IntKind.u32 0, Value.int IntKind.u32 0] hs2 (by kernel_rfl) (by kernel_rfl) fun b2 w5 hs1 => ?_)
    clear hs2
    refine To.one (One.store 0 (t := 26) (off := 0) (v := Value.agg #[Value.int IntKind.u32 0, Value.int IntKind.u32 0, Value.int IntKind.u32 0, Value.int IntKind.u32 0, Value.int IntKind.u32 0, Value.int IntKind.u32 0, Value.int IntKind.u32 0, Value.int IntKind.u32 0]) (vs' := [Value.int IntKind.u32 0, Value.int IntKind.u32 0, Value.int IntKind.u32 0, Value.int IntKind.u32 0, Value.int IntKind.u32 0, Value.int IntKind.u32 0, Value.int IntKind.u32 0, Value.int IntKind.u32 0]) hs1 rfl (by kernel_rfl) (by kernel_rfl) (by kernel_rfl) fun w6 hs2 => ?_)
    simp only [List.set_cons_zero, List.set_cons_succ] at hs2
    clear hs1
    refine To.run 6 ?_
    refine To.one (One.load 1 (t := 26) (off := 0) (v := Value.agg #[Value.int IntKind.u32 0, Value.int IntKind.u32 0, Value.int IntKind.u32 0, Value.int IntKind.u32 0, Value.int IntKind.u32 0, Value.int IntKind.u32 0, Value.int IntKind.u32 0, Value.int IntKind.u32 0]) hs2 rfl (by kernel_rfl) (by kernel_rfl) ?_)
    refine To.one (One.load 0 (t := 26) (off := 0) (v := Value.agg #[Value.int IntKind.u32 0, Value.int IntKind.u32 0, Value.int IntKind.u32 0, Value.int IntKind.u32 0, Value.int IntKind.u32 0, Value.int IntKind.u32 0, Value.int IntKind.u32 0, Value.int IntKind.u32 0]) hs2 rfl (by kernel_rfl) (by kernel_rfl) ?_)
    refine To.run 9 ?_
    refine To.one (One.call 4 [] [0, 1, 2, 3] (g := 16) (args := [Value.int IntKind.u64 many]) (by kernel_rfl) hs2 (c3) (by decide) rfl ?_)
    rintro _ _ w7 ⟨rfl, rfl⟩ hs1
    simp only [pickAll, List.filterMap_cons, List.filterMap_nil, List.getElem?_cons_zero, List.getElem?_cons_succ, List.cons_append, List.nil_append, List.drop_succ_cons, List.drop_zero] at hs1
    clear hs2
    refine To.run 1 ?_
    refine To.one (One.call 4 [] [0, 1, 2, 3] (g := 17) (args := [Value.int IntKind.u64 many]) (by kernel_rfl) hs1 (c4) (by decide) rfl ?_)
    rintro _ _ w8 ⟨rfl, rfl⟩ hs2
    simp only [pickAll, List.filterMap_cons, List.filterMap_nil, List.getElem?_cons_zero, List.getElem?_cons_succ, List.cons_append, List.nil_append, List.drop_succ_cons, List.drop_zero] at hs2
    clear hs1
    refine To.run 3 ?_
    refine To.isTrue 53 (t := P.toList == P.toList) (by kernel_rfl) (by assumption) ?_
    refine To.one (One.call 4 [] [0, 1, 2, 3] (g := 18) (args := []) (by kernel_rfl) hs2 (Start_ok) (by decide) rfl ?_)
    rintro _ _ w9 ⟨rfl, rfl⟩ hs1
    simp only [pickAll, List.filterMap_cons, List.filterMap_nil, List.getElem?_cons_zero, List.getElem?_cons_succ, List.cons_append, List.nil_append, List.drop_succ_cons, List.drop_zero] at hs1
    clear hs2
    refine To.one (One.call 4 [] [0, 1, 2, 3] (g := 19) (args := []) (by kernel_rfl) hs1 (RStart_ok) (by decide) rfl ?_)
    rintro _ _ w10 ⟨rfl, rfl⟩ hs2
    simp only [pickAll, List.filterMap_cons, List.filterMap_nil, List.getElem?_cons_zero, List.getElem?_cons_succ, List.cons_append, List.nil_append, List.drop_succ_cons, List.drop_zero] at hs2
    clear hs1
    refine To.run 4 ?_
    refine To.retv Try.func4 (by kernel_rfl) (v := Value.bool true) (by kernel_rfl) ?_
    first | exact hs1.lawEnd 3 rfl | exact hs2.lawEnd 3 rfl

theorem LB_law (W : World) (s : St8) (b : ByteArray) (whole : Bool) (many : Int) (h0 : 0 ≤ many) (h1 : many ≤ 18446744073709551615) (hb : b.size ≤ 1100000) :
    Calls Try.prog 4 #[aggU s.list, .string b, .bool whole, .int .u64 many] W (LawEnd W) := by
  refine Sx.start (args := [_, _, _, _]) Try.func4 (by kernel_rfl) ?_
  have hs := Sat.start W
  unfold St8.list aggU
  simp only [List.map_cons, List.map_nil]
  cases whole
  · refine To.run 2 ?_
    refine To.one (One.box (t := 26) (v := Value.agg #[Value.int IntKind.u32 (↑s.a.toNat : Int), Value.int IntKind.u32 (↑s.b.toNat : Int), Value.int IntKind.u32 (↑s.c.toNat : Int), Value.int IntKind.u32 (↑s.d.toNat : Int), Value.int IntKind.u32 (↑s.e.toNat : Int), Value.int IntKind.u32 (↑s.f.toNat : Int), Value.int IntKind.u32 (↑s.g.toNat : Int), Value.int IntKind.u32 (↑s.h.toNat : Int)]) [Value.int IntKind.u32 (↑s.a.toNat : Int), Value.int IntKind.u32 (↑s.b.toNat : Int), Value.int IntKind.u32 (↑s.c.toNat : Int), Value.int IntKind.u32 (↑s.d.toNat : Int), Value.int IntKind.u32 (↑s.e.toNat : Int), Value.int IntKind.u32 (↑s.f.toNat : Int), Value.int IntKind.u32 (↑s.g.toNat : Int), Value.int IntKind.u32 (↑s.h.toNat : Int)] hs (by kernel_rfl) (by kernel_rfl) fun b1 w1 hs1 => ?_)
    clear hs
    refine To.run 4 ?_
    refine To.one (One.call 2 [] [0, 1] (g := 9) (args := []) (by kernel_rfl) hs1 (Ex_ok) (by decide) rfl ?_)
    rintro _ _ w2 ⟨rfl, rfl⟩ hs2
    simp only [pickAll, List.filterMap_cons, List.filterMap_nil, List.getElem?_cons_zero, List.getElem?_cons_succ, List.cons_append, List.nil_append, List.drop_succ_cons, List.drop_zero] at hs2
    clear hs1
    refine To.run 17 ?_
    refine To.at (fn := Try.f4) (n := 5) (l := [(1, Value.string b), (3, Value.int IntKind.u64 many), (4, Value.pointer (some { block := b1, off := 0 : Addr })), (9, Value.bool true)]) (by kernel_rfl) fun j => ?_
    exact LB_main W s b many h0 h1 _ _ _ (by unfold St8.list; exact hs2)
  · refine To.run 2 ?_
    refine To.one (One.box (t := 26) (v := Value.agg #[Value.int IntKind.u32 (↑s.a.toNat : Int), Value.int IntKind.u32 (↑s.b.toNat : Int), Value.int IntKind.u32 (↑s.c.toNat : Int), Value.int IntKind.u32 (↑s.d.toNat : Int), Value.int IntKind.u32 (↑s.e.toNat : Int), Value.int IntKind.u32 (↑s.f.toNat : Int), Value.int IntKind.u32 (↑s.g.toNat : Int), Value.int IntKind.u32 (↑s.h.toNat : Int)]) [Value.int IntKind.u32 (↑s.a.toNat : Int), Value.int IntKind.u32 (↑s.b.toNat : Int), Value.int IntKind.u32 (↑s.c.toNat : Int), Value.int IntKind.u32 (↑s.d.toNat : Int), Value.int IntKind.u32 (↑s.e.toNat : Int), Value.int IntKind.u32 (↑s.f.toNat : Int), Value.int IntKind.u32 (↑s.g.toNat : Int), Value.int IntKind.u32 (↑s.h.toNat : Int)] hs (by kernel_rfl) (by kernel_rfl) fun b1 w1 hs1 => ?_)
    clear hs
    refine To.run 4 ?_
    refine To.one (One.call 2 [] [0, 1] (g := 9) (args := []) (by kernel_rfl) hs1 (Ex_ok) (by decide) rfl ?_)
    rintro _ _ w2 ⟨rfl, rfl⟩ hs2
    simp only [pickAll, List.filterMap_cons, List.filterMap_nil, List.getElem?_cons_zero, List.getElem?_cons_succ, List.cons_append, List.nil_append, List.drop_succ_cons, List.drop_zero] at hs2
    clear hs1
    refine To.run 18 ?_
    refine To.one (One.mks (t := 28) (e := 5) (by_ := 1) (n := 64) (kl := IntKind.i64) (kc := IntKind.i64) (l := 64) (k := 64) hs2 (by kernel_rfl) (rfl) (rfl) (by kernel_rfl) (Value.int IntKind.u8 0) (by kernel_rfl) (by kernel_rfl) (by omega) (by omega) fun a1 cap1 w3 hs1 => ?_)
    clear hs2
    obtain ⟨z, hz⟩ : ∃ z : List UInt8, z = List.replicate 64 0 := ⟨_, rfl⟩
    have hn : z.length = 64 := by rw [hz]; rfl
    have hv : List.replicate 64 (Value.int IntKind.u8 0) = z.map u8V := by rw [hz]; rfl
    rw [hv] at hs1
    clear hz hv
    refine To.known 19 (v := .slice a1 64 cap1) (.slice a1 z.length cap1) (by kernel_rfl) (by rw [hn]) ?_
    refine To.one (One.b2s 0 (src := 28) (dst := 9) (a := a1) (cap := cap1) (n := z.length) (e := 5) (z) hs1 rfl (by kernel_rfl) (by first | rfl | (simp; done)) (by kernel_rfl) (by kernel_rfl) ?_)
    obtain ⟨y, hy⟩ : ∃ y : ByteArray, y = ⟨z.toArray⟩ := ⟨_, rfl⟩
    have hy64 : y.size = 64 := by rw [hy, ByteArray.size, ← Array.length_toList]; exact hn
    rw [← hy]
    have hyb : (b ++ y).size = b.size + 64 := by rw [ByteArray.size_append, hy64]
    clear hy
    refine To.one (One.cat (t := 9) (x := b) (y := y) (by kernel_rfl) (by first | omega | (simp; omega)) ?_)
    refine To.one (One.slS (lo := none) (hi := (some (Value.int IntKind.i64 64))) (t := 9) (s := b ++ y) (0) (64) (by kernel_rfl) (by kernel_rfl) (fun v h => by cases h) (fun _ => rfl) (fun v h => ⟨_, _, (Option.some.inj h).symm, rfl⟩) (fun h => by cases h) (by first | omega | (simp; done) | (simp; omega)) (by first | omega | (simp; done) | (simp; omega)) ?_)
    refine To.run 2 ?_
    refine To.at (fn := Try.f4) (n := 5) (l := [(1, Value.string ((b ++ y).extract 0 64)), (3, Value.int IntKind.u64 many), (4, Value.pointer (some { block := b1, off := 0 : Addr })), (9, Value.bool true)]) (by kernel_rfl) fun j => ?_
    have hs := hs1.sub (List.sublist_cons_self _ _)
    exact LB_main W s _ many h0 h1 _ _ _ (by unfold St8.list; exact hs)

theorem U_int (n : Int) (h : (Lit.int .u32 n).wf = true) : U (BitVec.ofNat 32 n.toNat) = .int .u32 n := by
  have hh : 0 ≤ n ∧ n ≤ 4294967295 := by
    have := h
    simp [Lit.wf, IntKind.min, IntKind.max, IntKind.signed, IntKind.bits] at this
    omega
  unfold U
  congr 1
  rw [BitVec.toNat_ofNat, Nat.mod_eq_of_lt (by omega)]
  omega

/-- The state that is given. -/
theorem open_state {H : Type} {enc : TypeId × Value → H} {W : World} {base b2 : Nat} {spare : Nat → Bool} {held : Bool} {v : Value} {d : DataW H} {ps : List MemPlace}
    (hv : Value.okWide Try.prog W .any base 26 v) (h : DataW.Trod enc Try.prog W b2 spare held 26 v d ps) : ∃ s : St8, v = aggU s.list := by
  have hx : ∃ cs, v = .agg cs := by
    simp only [Value.okWide, Try.underlying26] at hv
    obtain ⟨cs, rfl, _⟩ := hv
    exact ⟨cs, rfl⟩
  obtain ⟨⟨cs⟩, rfl⟩ := hx
  obtain ⟨fuel, hf⟩ := h
  have ho : OkCells [.int .u32, .int .u32, .int .u32, .int .u32, .int .u32, .int .u32, .int .u32, .int .u32] cs := trod_flat 10 fuel 26 _ _ _ (by kernel_rfl) hf
  obtain ⟨_, _, rfl, ⟨n1, rfl, w1⟩, ho1⟩ := ho.uncons
  obtain ⟨_, _, rfl, ⟨n2, rfl, w2⟩, ho2⟩ := ho1.uncons
  obtain ⟨_, _, rfl, ⟨n3, rfl, w3⟩, ho3⟩ := ho2.uncons
  obtain ⟨_, _, rfl, ⟨n4, rfl, w4⟩, ho4⟩ := ho3.uncons
  obtain ⟨_, _, rfl, ⟨n5, rfl, w5⟩, ho5⟩ := ho4.uncons
  obtain ⟨_, _, rfl, ⟨n6, rfl, w6⟩, ho6⟩ := ho5.uncons
  obtain ⟨_, _, rfl, ⟨n7, rfl, w7⟩, ho7⟩ := ho6.uncons
  obtain ⟨_, _, rfl, ⟨n8, rfl, w8⟩, ho8⟩ := ho7.uncons
  obtain rfl := ho8.unnil
  refine ⟨⟨BitVec.ofNat 32 n1.toNat, BitVec.ofNat 32 n2.toNat, BitVec.ofNat 32 n3.toNat, BitVec.ofNat 32 n4.toNat, BitVec.ofNat 32 n5.toNat, BitVec.ofNat 32 n6.toNat, BitVec.ofNat 32 n7.toNat, BitVec.ofNat 32 n8.toNat⟩, ?_⟩
  unfold aggU St8.list
  simp only [List.map_cons, List.map_nil, U_int _ w1, U_int _ w2, U_int _ w3, U_int _ w4, U_int _ w5, U_int _ w6, U_int _ w7, U_int _ w8]
end Go.Proofs.Ytkddomellpldjaa
