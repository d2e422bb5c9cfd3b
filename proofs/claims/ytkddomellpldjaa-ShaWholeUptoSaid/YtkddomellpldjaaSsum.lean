import Derived.Test.YtkddomellpldjaaProg
import Derived.Test.YtkddomellpldjaaSxStr
import Derived.Test.YtkddomellpldjaaShex
import Derived.Test.YtkddomellpldjaaSblk
set_option linter.unusedSimpArgs false
set_option linter.unusedVariables false
namespace Go.Proofs.Ytkddomellpldjaa
open Go Go.Sx
set_option linter.unusedSimpArgs false
set_option maxHeartbeats 0
set_option maxRecDepth 20000

def st0 : St8 := ⟨0x6a09e667, 0xbb67ae85, 0x3c6ef372, 0xa54ff53a, 0x510e527f, 0x9b05688c, 0x1f83d9ab, 0x5be0cd19⟩
def blocksS (s : St8) (bs : List UInt8) : Nat → St8
  | 0 => s
  | n + 1 => blocksS (blockS s (bs.take 64)) (bs.drop 64) n
def dig4 (x : BitVec 32) : List UInt8 := [lo8 (x >>> 24), lo8 (x >>> 16), lo8 (x >>> 8), lo8 x]
def digest (s : St8) : List UInt8 := s.list.flatMap dig4
def sumL (bs : List UInt8) : List UInt8 := digest (blocksS st0 (bs ++ padL bs.length) ((bs.length + (padL bs.length).length) / 64))

theorem extract_list (r : ByteArray) (a b : Nat) : (r.extract a b).data.toList = (r.data.toList.take b).drop a := by
  rw [ByteArray.data_extract, Array.toList_extract]
  simp [List.extract_eq_take_drop, List.drop_take]

theorem Sum_loop (E : World) (Q : Ending → World → Prop) (L : List Res) (sb : Nat) (z : St8)
    (fin : ∀ (j : Nat → Value) (w : World), Sat E w (cel sb 26 (z.list.map U) :: L) → To Try.prog 10 (Cfg.here Try.f10 4 j [(0, .string ⟨#[]⟩), (3, .pointer (some ⟨sb, 0, none⟩))]) w Q) :
    ∀ (n : Nat) (s : St8) (r : ByteArray) (j : Nat → Value) (w : World), r.size = 64 * n → blocksS s r.data.toList n = z → Sat E w (cel sb 26 (s.list.map U) :: L) →
    To Try.prog 10 (Cfg.here Try.f10 4 j [(0, .string r), (3, .pointer (some ⟨sb, 0, none⟩))]) w Q := by
  intro n
  induction n with
  | zero =>
    intro s r j w hr hz hs
    have hr0 : r = ⟨#[]⟩ := by
      apply ByteArray.ext
      exact Array.eq_empty_of_size_eq_zero hr
    subst hr0
    rw [show s = z from hz] at hs
    exact fin j w hs
  | succ n ih =>
    intro s r j w hr hz hs
    have hne : (!r.toList == (⟨#[]⟩ : ByteArray).toList) = true := by
      rw [ByteArray.toList_eq, ByteArray.toList_eq]
      have h1 : r.data.toList ≠ [] := by
        intro e
        have h := size_list r
        rw [e, List.length_nil] at h
        omega
      simpa using h1
    have hsz : 64 ≤ r.size := by omega
    have c1 := Block_ok s (r.extract 0 64) (by rw [ByteArray.size_extract]; omega)
    obtain ⟨s', hs'⟩ : ∃ s', blockS s (r.extract 0 64).data.toList = s' := ⟨_, rfl⟩
    rw [hs'] at c1
    unfold St8.list at hs
    simp only [List.map_cons, List.map_nil] at hs
    clear fin
    refine To.run 6 ?_
    refine To.isTrue 15 (t := !r.toList == { data := #[] : ByteArray }.toList) (by kernel_rfl) (by assumption) ?_
    refine To.run 4 ?_
    refine To.draw [cel sb 26 [U s.a, U s.b, U s.c, U s.d, U s.e, U s.f, U s.g, U s.h]] [7] 8 hs (by kernel_rfl) (by kernel_rfl) (by kernel_rfl) fun w1 hs1 => ?_
    clear hs
    have hb1 := Sat.holds hs1 [0] rfl
    refine Reg.pures [1] (fuel' := 7) (.inl hb1) rfl (by kernel_rfl) ?_
    refine Reg.load 0 0 (t := 26) (off := 0) (v := Value.agg #[Value.int IntKind.u32 (↑s.a.toNat : Int), Value.int IntKind.u32 (↑s.b.toNat : Int), Value.int IntKind.u32 (↑s.c.toNat : Int), Value.int IntKind.u32 (↑s.d.toNat : Int), Value.int IntKind.u32 (↑s.e.toNat : Int), Value.int IntKind.u32 (↑s.f.toNat : Int), Value.int IntKind.u32 (↑s.g.toNat : Int), Value.int IntKind.u32 (↑s.h.toNat : Int)]) (.inl hb1) rfl (by kernel_rfl) (by kernel_rfl) (by kernel_rfl) ?_
    refine Reg.step 2 (by kernel_rfl) (One.slS (lo := none) (hi := (some (Value.int IntKind.i64 64))) (t := 9) (s := r) (0) (64) (by kernel_rfl) (by kernel_rfl) (fun v h => by cases h) (fun _ => rfl) (fun v h => ⟨_, _, (Option.some.inj h).symm, rfl⟩) (fun h => by cases h) (by first | omega | (simp; done) | (simp; omega)) (by first | omega | (simp; done) | (simp; omega)) ?_)
    have hb2 := Sat.holds hs1 [0] (B := [cel sb 26 [U s.a, U s.b, U s.c, U s.d, U s.e, U s.f, U s.g, U s.h]]) rfl
    refine ⟨.inl hb2, ?_⟩
    refine Reg.step 3 (by kernel_rfl) (One.call 1 [] [0] (g := 14) (args := [Value.agg #[Value.int IntKind.u32 (↑s.a.toNat : Int), Value.int IntKind.u32 (↑s.b.toNat : Int), Value.int IntKind.u32 (↑s.c.toNat : Int), Value.int IntKind.u32 (↑s.d.toNat : Int), Value.int IntKind.u32 (↑s.e.toNat : Int), Value.int IntKind.u32 (↑s.f.toNat : Int), Value.int IntKind.u32 (↑s.g.toNat : Int), Value.int IntKind.u32 (↑s.h.toNat : Int)], Value.string (r.extract 0 64)]) (by kernel_rfl) hs1 (c1) (by decide) rfl ?_)
    rintro _ _ w2 ⟨rfl, rfl⟩ hs2
    simp only [pickAll, List.filterMap_cons, List.filterMap_nil, List.getElem?_cons_zero, List.getElem?_cons_succ, List.cons_append, List.nil_append, List.drop_succ_cons, List.drop_zero] at hs2
    clear hs1
    have hb3 := Sat.holds hs2 [0] (B := [cel sb 26 [U s.a, U s.b, U s.c, U s.d, U s.e, U s.f, U s.g, U s.h]]) rfl
    refine ⟨.inl hb3, ?_⟩
    refine Reg.pures [4, 5, 6] (fuel' := 1) (.inl hb3) rfl (by kernel_rfl) ?_
    refine Reg.step 7 (by kernel_rfl) (One.store 0 (t := 26) (off := 0) (v := Value.agg #[Value.int IntKind.u32 (↑s'.a.toNat : Int), Value.int IntKind.u32 (↑s'.b.toNat : Int), Value.int IntKind.u32 (↑s'.c.toNat : Int), Value.int IntKind.u32 (↑s'.d.toNat : Int), Value.int IntKind.u32 (↑s'.e.toNat : Int), Value.int IntKind.u32 (↑s'.f.toNat : Int), Value.int IntKind.u32 (↑s'.g.toNat : Int), Value.int IntKind.u32 (↑s'.h.toNat : Int)]) (vs' := [Value.int IntKind.u32 (↑s'.a.toNat : Int), Value.int IntKind.u32 (↑s'.b.toNat : Int), Value.int IntKind.u32 (↑s'.c.toNat : Int), Value.int IntKind.u32 (↑s'.d.toNat : Int), Value.int IntKind.u32 (↑s'.e.toNat : Int), Value.int IntKind.u32 (↑s'.f.toNat : Int), Value.int IntKind.u32 (↑s'.g.toNat : Int), Value.int IntKind.u32 (↑s'.h.toNat : Int)]) hs2 rfl (by kernel_rfl) (by kernel_rfl) (by kernel_rfl) fun w3 hs1 => ?_)
    simp only [List.set_cons_zero, List.set_cons_succ] at hs1
    clear hs2
    refine ⟨(.inr (by kernel_rfl)), ?_⟩
    refine Reg.done (by kernel_rfl) ?_
    refine To.run 3 ?_
    refine To.one (One.slS (lo := (some (Value.int IntKind.i64 64))) (hi := none) (t := 9) (s := r) (64) (ByteArray.size (r)) (by kernel_rfl) (by kernel_rfl) (fun v h => ⟨_, _, (Option.some.inj h).symm, rfl⟩) (fun h => by cases h) (fun v h => by cases h) (fun _ => rfl) (by first | omega | (simp; done) | (simp; omega)) (by first | omega | (simp; done) | (simp; omega)) ?_)
    refine To.run 2 ?_
    refine To.run 1 ?_
    refine To.at (fn := Try.f10) (n := 4) (l := [(0, Value.string (r.extract 64 r.size)), (3, Value.pointer (some { block := sb, off := 0 : Addr }))]) (by kernel_rfl) fun j => ?_
    refine ih s' (r.extract 64 r.size) _ _ (by rw [ByteArray.size_extract]; omega) ?_ hs1
    have e1 : (r.extract 0 64).data.toList = r.data.toList.take 64 := by rw [extract_list, List.drop_zero]
    have e2 : (r.extract 64 r.size).data.toList = r.data.toList.drop 64 := by rw [extract_list, List.take_of_length_le (by rw [← size_list]; exact Nat.le_refl _)]
    rw [← hz, blocksS, ← hs', e1, e2]

theorem snocLen4 (l : List UInt8) (b c d e : UInt8) (a : Option Addr) (cap : Nat) : Value.slice a (l.map u8V ++ [u8V b, u8V c, u8V d, u8V e]).length cap = Value.slice a (l ++ [b, c, d, e]).length cap := by simp
theorem snoc_row4 {E w : World} {L : List Res} {a : Option Addr} {cap : Nat} {l l' : List UInt8} {b c d e : UInt8} (h : Sat E w (row a cap 5 (l.map u8V ++ [u8V b, u8V c, u8V d, u8V e]) :: L)) (g : l' = l ++ [b, c, d, e]) : Sat E w (row a cap 5 (l'.map u8V) :: L) := by
  rw [g, List.map_append]; exact h

theorem Sum_end (E : World) (L : List Res) (sb : Nat) (z : St8) (j : Nat → Value) (w : World) (hs : Sat E w (cel sb 26 (z.list.map U) :: L)) :
    To Try.prog 10 (Cfg.here Try.f10 4 j [(0, .string ⟨#[]⟩), (3, .pointer (some ⟨sb, 0, none⟩))]) w (Fins E L (fun v l => v = .string ⟨(digest z).toArray⟩ ∧ l = [])) := by
  unfold St8.list at hs
  simp only [List.map_cons, List.map_nil] at hs
  obtain ⟨l0, g0⟩ : ∃ l : List UInt8, l = [] := ⟨_, rfl⟩
  have n0 : l0.length = 0 := by rw [g0]; rfl
  refine To.run 15 ?_
  refine To.one (One.load 0 (t := 26) (off := 0) (v := Value.agg #[Value.int IntKind.u32 (↑z.a.toNat : Int), Value.int IntKind.u32 (↑z.b.toNat : Int), Value.int IntKind.u32 (↑z.c.toNat : Int), Value.int IntKind.u32 (↑z.d.toNat : Int), Value.int IntKind.u32 (↑z.e.toNat : Int), Value.int IntKind.u32 (↑z.f.toNat : Int), Value.int IntKind.u32 (↑z.g.toNat : Int), Value.int IntKind.u32 (↑z.h.toNat : Int)]) hs rfl (by kernel_rfl) (by kernel_rfl) ?_)
  refine To.run 3 ?_
  refine To.known 4 (v := .slice none 0 0) (.slice none l0.length 0) (by kernel_rfl) (by rw [n0]) ?_
  have hs : Sat E w (row none 0 5 (l0.map u8V) :: cel sb 26 [U z.a, U z.b, U z.c, U z.d, U z.e, U z.f, U z.g, U z.h] :: L) := by rw [g0]; exact hs.rowNil 0
  refine To.run 1 ?_
  refine To.at (fn := Try.f10) (n := 11) (l := [(4, Value.slice none l0.length 0), (25, Value.agg #[Value.int IntKind.u32 (↑z.a.toNat : Int), Value.int IntKind.u32 (↑z.b.toNat : Int), Value.int IntKind.u32 (↑z.c.toNat : Int), Value.int IntKind.u32 (↑z.d.toNat : Int), Value.int IntKind.u32 (↑z.e.toNat : Int), Value.int IntKind.u32 (↑z.f.toNat : Int), Value.int IntKind.u32 (↑z.g.toNat : Int), Value.int IntKind.u32 (↑z.h.toNat : Int)]), (26, Value.int IntKind.i64 0)]) (by kernel_rfl) fun j => ?_
  refine To.run 18 ?_
  refine To.known 31 _ (by kernel_rfl) (U_shr (z.a) (24) (24) rfl) ?_
  refine To.run 1 ?_
  refine To.known 32 _ (by kernel_rfl) (U_to8 (z.a >>> 24)) ?_
  refine To.run 2 ?_
  refine To.known 34 _ (by kernel_rfl) (U_shr (z.a) (16) (16) rfl) ?_
  refine To.run 1 ?_
  refine To.known 35 _ (by kernel_rfl) (U_to8 (z.a >>> 16)) ?_
  refine To.run 2 ?_
  refine To.known 37 _ (by kernel_rfl) (U_shr (z.a) (8) (8) rfl) ?_
  refine To.run 1 ?_
  refine To.known 38 _ (by kernel_rfl) (U_to8 (z.a >>> 8)) ?_
  refine To.run 2 ?_
  refine To.known 40 _ (by kernel_rfl) (U_to8 (z.a)) ?_
  refine To.one (One.slit (t := 28) (n := 4) (parts := [(0, Value.int IntKind.u8 (↑(lo8 (z.a >>> 24)).toNat : Int)), (1, Value.int IntKind.u8 (↑(lo8 (z.a >>> 16)).toNat : Int)), (2, Value.int IntKind.u8 (↑(lo8 (z.a >>> 8)).toNat : Int)), (3, Value.int IntKind.u8 (↑(lo8 z.a).toNat : Int))]) 5 [Value.int IntKind.u8 (↑(lo8 (z.a >>> 24)).toNat : Int), Value.int IntKind.u8 (↑(lo8 (z.a >>> 16)).toNat : Int), Value.int IntKind.u8 (↑(lo8 (z.a >>> 8)).toNat : Int), Value.int IntKind.u8 (↑(lo8 z.a).toNat : Int)] hs (by kernel_rfl) (by kernel_rfl) fun b1 w1 hs1 => ?_)
  clear hs
  refine To.one (One.appRow 1 (t := 28) (ty := 28) (e := 5) (by_ := 1) (a := none) (cap := 0) (m := 4) (cp := 4) (n := l0.length) (xs := List.map u8V l0) (news := [Value.int IntKind.u8 (↑(lo8 (z.a >>> 24)).toNat : Int), Value.int IntKind.u8 (↑(lo8 (z.a >>> 16)).toNat : Int), Value.int IntKind.u8 (↑(lo8 (z.a >>> 8)).toNat : Int), Value.int IntKind.u8 (↑(lo8 z.a).toNat : Int)]) (b := b1) (off := 0) hs1 rfl (by kernel_rfl) (by first | rfl | (simp; done)) (by kernel_rfl) (by first | rfl | (simp; done)) (fun j u hj => cell_row hs1 0 rfl hj) (by kernel_rfl) (by first | omega | (simp; omega)) (by first | omega | (simp; omega)) fun a1 cap1 w2 hs2 => ?_)
  simp only [List.set_cons_zero, List.set_cons_succ] at hs2
  clear hs1
  replace hs2 := Sat.selDrop hs2 3 [1, 2] (by decide) (by decide)
  simp only [pickAll, List.filterMap_cons, List.filterMap_nil, List.getElem?_cons_zero, List.getElem?_cons_succ, List.cons_append, List.nil_append, List.drop_succ_cons, List.drop_zero] at hs2
  refine To.run 7 ?_
  obtain ⟨l1, g1⟩ : ∃ l, l = l0 ++ dig4 z.a := ⟨_, rfl⟩
  refine To.known 4 _ (by kernel_rfl) (snocLen4 l0 (lo8 (z.a >>> 24)) (lo8 (z.a >>> 16)) (lo8 (z.a >>> 8)) (lo8 z.a) a1 cap1) ?_
  have hs := snoc_row4 hs2 g1
  clear hs2
  rw [show l0 ++ [lo8 (z.a >>> 24), lo8 (z.a >>> 16), lo8 (z.a >>> 8), lo8 z.a] = l1 from g1.symm]
  have n1 : l1.length = l0.length + 4 := by rw [g1]; simp [dig4]
  refine To.run 1 ?_
  refine To.at (fn := Try.f10) (n := 11) (l := [(4, Value.slice a1 l1.length cap1), (25, Value.agg #[Value.int IntKind.u32 (↑z.a.toNat : Int), Value.int IntKind.u32 (↑z.b.toNat : Int), Value.int IntKind.u32 (↑z.c.toNat : Int), Value.int IntKind.u32 (↑z.d.toNat : Int), Value.int IntKind.u32 (↑z.e.toNat : Int), Value.int IntKind.u32 (↑z.f.toNat : Int), Value.int IntKind.u32 (↑z.g.toNat : Int), Value.int IntKind.u32 (↑z.h.toNat : Int)]), (26, Value.int IntKind.i64 1)]) (by kernel_rfl) fun j => ?_
  refine To.run 18 ?_
  refine To.known 31 _ (by kernel_rfl) (U_shr (z.b) (24) (24) rfl) ?_
  refine To.run 1 ?_
  refine To.known 32 _ (by kernel_rfl) (U_to8 (z.b >>> 24)) ?_
  refine To.run 2 ?_
  refine To.known 34 _ (by kernel_rfl) (U_shr (z.b) (16) (16) rfl) ?_
  refine To.run 1 ?_
  refine To.known 35 _ (by kernel_rfl) (U_to8 (z.b >>> 16)) ?_
  refine To.run 2 ?_
  refine To.known 37 _ (by kernel_rfl) (U_shr (z.b) (8) (8) rfl) ?_
  refine To.run 1 ?_
  refine To.known 38 _ (by kernel_rfl) (U_to8 (z.b >>> 8)) ?_
  refine To.run 2 ?_
  refine To.known 40 _ (by kernel_rfl) (U_to8 (z.b)) ?_
  refine To.one (One.slit (t := 28) (n := 4) (parts := [(0, Value.int IntKind.u8 (↑(lo8 (z.b >>> 24)).toNat : Int)), (1, Value.int IntKind.u8 (↑(lo8 (z.b >>> 16)).toNat : Int)), (2, Value.int IntKind.u8 (↑(lo8 (z.b >>> 8)).toNat : Int)), (3, Value.int IntKind.u8 (↑(lo8 z.b).toNat : Int))]) 5 [Value.int IntKind.u8 (↑(lo8 (z.b >>> 24)).toNat : Int), Value.int IntKind.u8 (↑(lo8 (z.b >>> 16)).toNat : Int), Value.int IntKind.u8 (↑(lo8 (z.b >>> 8)).toNat : Int), Value.int IntKind.u8 (↑(lo8 z.b).toNat : Int)] hs (by kernel_rfl) (by kernel_rfl) fun b2 w3 hs1 => ?_)
  clear hs
  refine To.one (One.appRow 1 (t := 28) (ty := 28) (e := 5) (by_ := 1) (a := a1) (cap := cap1) (m := 4) (cp := 4) (n := l1.length) (xs := List.map u8V l1) (news := [Value.int IntKind.u8 (↑(lo8 (z.b >>> 24)).toNat : Int), Value.int IntKind.u8 (↑(lo8 (z.b >>> 16)).toNat : Int), Value.int IntKind.u8 (↑(lo8 (z.b >>> 8)).toNat : Int), Value.int IntKind.u8 (↑(lo8 z.b).toNat : Int)]) (b := b2) (off := 0) hs1 rfl (by kernel_rfl) (by first | rfl | (simp; done)) (by kernel_rfl) (by first | rfl | (simp; done)) (fun j u hj => cell_row hs1 0 rfl hj) (by kernel_rfl) (by first | omega | (simp; omega)) (by first | omega | (simp; omega)) fun a2 cap2 w4 hs2 => ?_)
  simp only [List.set_cons_zero, List.set_cons_succ] at hs2
  clear hs1
  replace hs2 := Sat.selDrop hs2 3 [1, 2] (by decide) (by decide)
  simp only [pickAll, List.filterMap_cons, List.filterMap_nil, List.getElem?_cons_zero, List.getElem?_cons_succ, List.cons_append, List.nil_append, List.drop_succ_cons, List.drop_zero] at hs2
  refine To.run 7 ?_
  obtain ⟨l2, g2⟩ : ∃ l, l = l1 ++ dig4 z.b := ⟨_, rfl⟩
  refine To.known 4 _ (by kernel_rfl) (snocLen4 l1 (lo8 (z.b >>> 24)) (lo8 (z.b >>> 16)) (lo8 (z.b >>> 8)) (lo8 z.b) a2 cap2) ?_
  have hs := snoc_row4 hs2 g2
  clear hs2
  rw [show l1 ++ [lo8 (z.b >>> 24), lo8 (z.b >>> 16), lo8 (z.b >>> 8), lo8 z.b] = l2 from g2.symm]
  have n2 : l2.length = l1.length + 4 := by rw [g2]; simp [dig4]
  refine To.run 1 ?_
  refine To.at (fn := Try.f10) (n := 11) (l := [(4, Value.slice a2 l2.length cap2), (25, Value.agg #[Value.int IntKind.u32 (↑z.a.toNat : Int), Value.int IntKind.u32 (↑z.b.toNat : Int), Value.int IntKind.u32 (↑z.c.toNat : Int), Value.int IntKind.u32 (↑z.d.toNat : Int), Value.int IntKind.u32 (↑z.e.toNat : Int), Value.int IntKind.u32 (↑z.f.toNat : Int), Value.int IntKind.u32 (↑z.g.toNat : Int), Value.int IntKind.u32 (↑z.h.toNat : Int)]), (26, Value.int IntKind.i64 2)]) (by kernel_rfl) fun j => ?_
  refine To.run 18 ?_
  refine To.known 31 _ (by kernel_rfl) (U_shr (z.c) (24) (24) rfl) ?_
  refine To.run 1 ?_
  refine To.known 32 _ (by kernel_rfl) (U_to8 (z.c >>> 24)) ?_
  refine To.run 2 ?_
  refine To.known 34 _ (by kernel_rfl) (U_shr (z.c) (16) (16) rfl) ?_
  refine To.run 1 ?_
  refine To.known 35 _ (by kernel_rfl) (U_to8 (z.c >>> 16)) ?_
  refine To.run 2 ?_
  refine To.known 37 _ (by kernel_rfl) (U_shr (z.c) (8) (8) rfl) ?_
  refine To.run 1 ?_
  refine To.known 38 _ (by kernel_rfl) (U_to8 (z.c >>> 8)) ?_
  refine To.run 2 ?_
  refine To.known 40 _ (by kernel_rfl) (U_to8 (z.c)) ?_
  refine To.one (One.slit (t := 28) (n := 4) (parts := [(0, Value.int IntKind.u8 (↑(lo8 (z.c >>> 24)).toNat : Int)), (1, Value.int IntKind.u8 (↑(lo8 (z.c >>> 16)).toNat : Int)), (2, Value.int IntKind.u8 (↑(lo8 (z.c >>> 8)).toNat : Int)), (3, Value.int IntKind.u8 (↑(lo8 z.c).toNat : Int))]) 5 [Value.int IntKind.u8 (↑(lo8 (z.c >>> 24)).toNat : Int), Value.int IntKind.u8 (↑(lo8 (z.c >>> 16)).toNat : Int), Value.int IntKind.u8 (↑(lo8 (z.c >>> 8)).toNat : Int), Value.int IntKind.u8 (↑(lo8 z.c).toNat : Int)] hs (by kernel_rfl) (by kernel_rfl) fun b3 w5 hs1 => ?_)
  clear hs
  refine To.one (One.appRow 1 (t := 28) (ty := 28) (e := 5) (by_ := 1) (a := a2) (cap := cap2) (m := 4) (cp := 4) (n := l2.length) (xs := List.map u8V l2) (news := [Value.int IntKind.u8 (↑(lo8 (z.c >>> 24)).toNat : Int), Value.int IntKind.u8 (↑(lo8 (z.c >>> 16)).toNat : Int), Value.int IntKind.u8 (↑(lo8 (z.c >>> 8)).toNat : Int), Value.int IntKind.u8 (↑(lo8 z.c).toNat : Int)]) (b := b3) (off := 0) hs1 rfl (by kernel_rfl) (by first | rfl | (simp; done)) (by kernel_rfl) (by first | rfl | (simp; done)) (fun j u hj => cell_row hs1 0 rfl hj) (by kernel_rfl) (by first | omega | (simp; omega)) (by first | omega | (simp; omega)) fun a3 cap3 w6 hs2 => ?_)
  simp only [List.set_cons_zero, List.set_cons_succ] at hs2
  clear hs1
  replace hs2 := Sat.selDrop hs2 3 [1, 2] (by decide) (by decide)
  simp only [pickAll, List.filterMap_cons, List.filterMap_nil, List.getElem?_cons_zero, List.getElem?_cons_succ, List.cons_append, List.nil_append, List.drop_succ_cons, List.drop_zero] at hs2
  refine To.run 7 ?_
  obtain ⟨l3, g3⟩ : ∃ l, l = l2 ++ dig4 z.c := ⟨_, rfl⟩
  refine To.known 4 _ (by kernel_rfl) (snocLen4 l2 (lo8 (z.c >>> 24)) (lo8 (z.c >>> 16)) (lo8 (z.c >>> 8)) (lo8 z.c) a3 cap3) ?_
  have hs := snoc_row4 hs2 g3
  clear hs2
  rw [show l2 ++ [lo8 (z.c >>> 24), lo8 (z.c >>> 16), lo8 (z.c >>> 8), lo8 z.c] = l3 from g3.symm]
  have n3 : l3.length = l2.length + 4 := by rw [g3]; simp [dig4]
  refine To.run 1 ?_
  refine To.at (fn := Try.f10) (n := 11) (l := [(4, Value.slice a3 l3.length cap3), (25, Value.agg #[Value.int IntKind.u32 (↑z.a.toNat : Int), Value.int IntKind.u32 (↑z.b.toNat : Int), Value.int IntKind.u32 (↑z.c.toNat : Int), Value.int IntKind.u32 (↑z.d.toNat : Int), Value.int IntKind.u32 (↑z.e.toNat : Int), Value.int IntKind.u32 (↑z.f.toNat : Int), Value.int IntKind.u32 (↑z.g.toNat : Int), Value.int IntKind.u32 (↑z.h.toNat : Int)]), (26, Value.int IntKind.i64 3)]) (by kernel_rfl) fun j => ?_
  refine To.run 18 ?_
  refine To.known 31 _ (by kernel_rfl) (U_shr (z.d) (24) (24) rfl) ?_
  refine To.run 1 ?_
  refine To.known 32 _ (by kernel_rfl) (U_to8 (z.d >>> 24)) ?_
  refine To.run 2 ?_
  refine To.known 34 _ (by kernel_rfl) (U_shr (z.d) (16) (16) rfl) ?_
  refine To.run 1 ?_
  refine To.known 35 _ (by kernel_rfl) (U_to8 (z.d >>> 16)) ?_
  refine To.run 2 ?_
  refine To.known 37 _ (by kernel_rfl) (U_shr (z.d) (8) (8) rfl) ?_
  refine To.run 1 ?_
  refine To.known 38 _ (by kernel_rfl) (U_to8 (z.d >>> 8)) ?_
  refine To.run 2 ?_
  refine To.known 40 _ (by kernel_rfl) (U_to8 (z.d)) ?_
  refine To.one (One.slit (t := 28) (n := 4) (parts := [(0, Value.int IntKind.u8 (↑(lo8 (z.d >>> 24)).toNat : Int)), (1, Value.int IntKind.u8 (↑(lo8 (z.d >>> 16)).toNat : Int)), (2, Value.int IntKind.u8 (↑(lo8 (z.d >>> 8)).toNat : Int)), (3, Value.int IntKind.u8 (↑(lo8 z.d).toNat : Int))]) 5 [Value.int IntKind.u8 (↑(lo8 (z.d >>> 24)).toNat : Int), Value.int IntKind.u8 (↑(lo8 (z.d >>> 16)).toNat : Int), Value.int IntKind.u8 (↑(lo8 (z.d >>> 8)).toNat : Int), Value.int IntKind.u8 (↑(lo8 z.d).toNat : Int)] hs (by kernel_rfl) (by kernel_rfl) fun b4 w7 hs1 => ?_)
  clear hs
  refine To.one (One.appRow 1 (t := 28) (ty := 28) (e := 5) (by_ := 1) (a := a3) (cap := cap3) (m := 4) (cp := 4) (n := l3.length) (xs := List.map u8V l3) (news := [Value.int IntKind.u8 (↑(lo8 (z.d >>> 24)).toNat : Int), Value.int IntKind.u8 (↑(lo8 (z.d >>> 16)).toNat : Int), Value.int IntKind.u8 (↑(lo8 (z.d >>> 8)).toNat : Int), Value.int IntKind.u8 (↑(lo8 z.d).toNat : Int)]) (b := b4) (off := 0) hs1 rfl (by kernel_rfl) (by first | rfl | (simp; done)) (by kernel_rfl) (by first | rfl | (simp; done)) (fun j u hj => cell_row hs1 0 rfl hj) (by kernel_rfl) (by first | omega | (simp; omega)) (by first | omega | (simp; omega)) fun a4 cap4 w8 hs2 => ?_)
  simp only [List.set_cons_zero, List.set_cons_succ] at hs2
  clear hs1
  replace hs2 := Sat.selDrop hs2 3 [1, 2] (by decide) (by decide)
  simp only [pickAll, List.filterMap_cons, List.filterMap_nil, List.getElem?_cons_zero, List.getElem?_cons_succ, List.cons_append, List.nil_append, List.drop_succ_cons, List.drop_zero] at hs2
  refine To.run 7 ?_
  obtain ⟨l4, g4⟩ : ∃ l, l = l3 ++ dig4 z.d := ⟨_, rfl⟩
  refine To.known 4 _ (by kernel_rfl) (snocLen4 l3 (lo8 (z.d >>> 24)) (lo8 (z.d >>> 16)) (lo8 (z.d >>> 8)) (lo8 z.d) a4 cap4) ?_
  have hs := snoc_row4 hs2 g4
  clear hs2
  rw [show l3 ++ [lo8 (z.d >>> 24), lo8 (z.d >>> 16), lo8 (z.d >>> 8), lo8 z.d] = l4 from g4.symm]
  have n4 : l4.length = l3.length + 4 := by rw [g4]; simp [dig4]
  refine To.run 1 ?_
  refine To.at (fn := Try.f10) (n := 11) (l := [(4, Value.slice a4 l4.length cap4), (25, Value.agg #[Value.int IntKind.u32 (↑z.a.toNat : Int), Value.int IntKind.u32 (↑z.b.toNat : Int), Value.int IntKind.u32 (↑z.c.toNat : Int), Value.int IntKind.u32 (↑z.d.toNat : Int), Value.int IntKind.u32 (↑z.e.toNat : Int), Value.int IntKind.u32 (↑z.f.toNat : Int), Value.int IntKind.u32 (↑z.g.toNat : Int), Value.int IntKind.u32 (↑z.h.toNat : Int)]), (26, Value.int IntKind.i64 4)]) (by kernel_rfl) fun j => ?_
  refine To.run 18 ?_
  refine To.known 31 _ (by kernel_rfl) (U_shr (z.e) (24) (24) rfl) ?_
  refine To.run 1 ?_
  refine To.known 32 _ (by kernel_rfl) (U_to8 (z.e >>> 24)) ?_
  refine To.run 2 ?_
  refine To.known 34 _ (by kernel_rfl) (U_shr (z.e) (16) (16) rfl) ?_
  refine To.run 1 ?_
  refine To.known 35 _ (by kernel_rfl) (U_to8 (z.e >>> 16)) ?_
  refine To.run 2 ?_
  refine To.known 37 _ (by kernel_rfl) (U_shr (z.e) (8) (8) rfl) ?_
  refine To.run 1 ?_
  refine To.known 38 _ (by kernel_rfl) (U_to8 (z.e >>> 8)) ?_
  refine To.run 2 ?_
  refine To.known 40 _ (by kernel_rfl) (U_to8 (z.e)) ?_
  refine To.one (One.slit (t := 28) (n := 4) (parts := [(0, Value.int IntKind.u8 (↑(lo8 (z.e >>> 24)).toNat : Int)), (1, Value.int IntKind.u8 (↑(lo8 (z.e >>> 16)).toNat : Int)), (2, Value.int IntKind.u8 (↑(lo8 (z.e >>> 8)).toNat : Int)), (3, Value.int IntKind.u8 (↑(lo8 z.e).toNat : Int))]) 5 [Value.int IntKind.u8 (↑(lo8 (z.e >>> 24)).toNat : Int), Value.int IntKind.u8 (↑(lo8 (z.e >>> 16)).toNat : Int), Value.int IntKind.u8 (↑(lo8 (z.e >>> 8)).toNat : Int), Value.int IntKind.u8 (↑(lo8 z.e).toNat : Int)] hs (by kernel_rfl) (by kernel_rfl) fun b5 w9 hs1 => ?_)
  clear hs
  refine To.one (One.appRow 1 (t := 28) (ty := 28) (e := 5) (by_ := 1) (a := a4) (cap := cap4) (m := 4) (cp := 4) (n := l4.length) (xs := List.map u8V l4) (news := [Value.int IntKind.u8 (↑(lo8 (z.e >>> 24)).toNat : Int), Value.int IntKind.u8 (↑(lo8 (z.e >>> 16)).toNat : Int), Value.int IntKind.u8 (↑(lo8 (z.e >>> 8)).toNat : Int), Value.int IntKind.u8 (↑(lo8 z.e).toNat : Int)]) (b := b5) (off := 0) hs1 rfl (by kernel_rfl) (by first | rfl | (simp; done)) (by kernel_rfl) (by first | rfl | (simp; done)) (fun j u hj => cell_row hs1 0 rfl hj) (by kernel_rfl) (by first | omega | (simp; omega)) (by first | omega | (simp; omega)) fun a5 cap5 w10 hs2 => ?_)
  simp only [List.set_cons_zero, List.set_cons_succ] at hs2
  clear hs1
  replace hs2 := Sat.selDrop hs2 3 [1, 2] (by decide) (by decide)
  simp only [pickAll, List.filterMap_cons, List.filterMap_nil, List.getElem?_cons_zero, List.getElem?_cons_succ, List.cons_append, List.nil_append, List.drop_succ_cons, List.drop_zero] at hs2
  refine To.run 7 ?_
  obtain ⟨l5, g5⟩ : ∃ l, l = l4 ++ dig4 z.e := ⟨_, rfl⟩
  refine To.known 4 _ (by kernel_rfl) (snocLen4 l4 (lo8 (z.e >>> 24)) (lo8 (z.e >>> 16)) (lo8 (z.e >>> 8)) (lo8 z.e) a5 cap5) ?_
  have hs := snoc_row4 hs2 g5
  clear hs2
  rw [show l4 ++ [lo8 (z.e >>> 24), lo8 (z.e >>> 16), lo8 (z.e >>> 8), lo8 z.e] = l5 from g5.symm]
  have n5 : l5.length = l4.length + 4 := by rw [g5]; simp [dig4]
  refine To.run 1 ?_
  refine To.at (fn := Try.f10) (n := 11) (l := [(4, Value.slice a5 l5.length cap5), (25, Value.agg #[Value.int IntKind.u32 (↑z.a.toNat : Int), Value.int IntKind.u32 (↑z.b.toNat : Int), Value.int IntKind.u32 (↑z.c.toNat : Int), Value.int IntKind.u32 (↑z.d.toNat : Int), Value.int IntKind.u32 (↑z.e.toNat : Int), Value.int IntKind.u32 (↑z.f.toNat : Int), Value.int IntKind.u32 (↑z.g.toNat : Int), Value.int IntKind.u32 (↑z.h.toNat : Int)]), (26, Value.int IntKind.i64 5)]) (by kernel_rfl) fun j => ?_
  refine To.run 18 ?_
  refine To.known 31 _ (by kernel_rfl) (U_shr (z.f) (24) (24) rfl) ?_
  refine To.run 1 ?_
  refine To.known 32 _ (by kernel_rfl) (U_to8 (z.f >>> 24)) ?_
  refine To.run 2 ?_
  refine To.known 34 _ (by kernel_rfl) (U_shr (z.f) (16) (16) rfl) ?_
  refine To.run 1 ?_
  refine To.known 35 _ (by kernel_rfl) (U_to8 (z.f >>> 16)) ?_
  refine To.run 2 ?_
  refine To.known 37 _ (by kernel_rfl) (U_shr (z.f) (8) (8) rfl) ?_
  refine To.run 1 ?_
  refine To.known 38 _ (by kernel_rfl) (U_to8 (z.f >>> 8)) ?_
  refine To.run 2 ?_
  refine To.known 40 _ (by kernel_rfl) (U_to8 (z.f)) ?_
  refine To.one (One.slit (t := 28) (n := 4) (parts := [(0, Value.int IntKind.u8 (↑(lo8 (z.f >>> 24)).toNat : Int)), (1, Value.int IntKind.u8 (↑(lo8 (z.f >>> 16)).toNat : Int)), (2, Value.int IntKind.u8 (↑(lo8 (z.f >>> 8)).toNat : Int)), (3, Value.int IntKind.u8 (↑(lo8 z.f).toNat : Int))]) 5 [Value.int IntKind.u8 (↑(lo8 (z.f >>> 24)).toNat : Int), Value.int IntKind.u8 (↑(lo8 (z.f >>> 16)).toNat : Int), Value.int IntKind.u8 (↑(lo8 (z.f >>> 8)).toNat : Int), Value.int IntKind.u8 (↑(lo8 z.f).toNat : Int)] hs (by kernel_rfl) (by kernel_rfl) fun b6 w11 hs1 => ?_)
  clear hs
  refine To.one (One.appRow 1 (t := 28) (ty := 28) (e := 5) (by_ := 1) (a := a5) (cap := cap5) (m := 4) (cp := 4) (n := l5.length) (xs := List.map u8V l5) (news := [Value.int IntKind.u8 (↑(lo8 (z.f >>> 24)).toNat : Int), Value.int IntKind.u8 (↑(lo8 (z.f >>> 16)).toNat : Int), Value.int IntKind.u8 (↑(lo8 (z.f >>> 8)).toNat : Int), Value.int IntKind.u8 (↑(lo8 z.f).toNat : Int)]) (b := b6) (off := 0) hs1 rfl (by kernel_rfl) (by first | rfl | (simp; done)) (by kernel_rfl) (by first | rfl | (simp; done)) (fun j u hj => cell_row hs1 0 rfl hj) (by kernel_rfl) (by first | omega | (simp; omega)) (by first | omega | (simp; omega)) fun a6 cap6 w12 hs2 => ?_)
  simp only [List.set_cons_zero, List.set_cons_succ] at hs2
  clear hs1
  replace hs2 := Sat.selDrop hs2 3 [1, 2] (by decide) (by decide)
  simp only [pickAll, List.filterMap_cons, List.filterMap_nil, List.getElem?_cons_zero, List.getElem?_cons_succ, List.cons_append, List.nil_append, List.drop_succ_cons, List.drop_zero] at hs2
  refine To.run 7 ?_
  obtain ⟨l6, g6⟩ : ∃ l, l = l5 ++ dig4 z.f := ⟨_, rfl⟩
  refine To.known 4 _ (by kernel_rfl) (snocLen4 l5 (lo8 (z.f >>> 24)) (lo8 (z.f >>> 16)) (lo8 (z.f >>> 8)) (lo8 z.f) a6 cap6) ?_
  have hs := snoc_row4 hs2 g6
  clear hs2
  rw [show l5 ++ [lo8 (z.f >>> 24), lo8 (z.f >>> 16), lo8 (z.f >>> 8), lo8 z.f] = l6 from g6.symm]
  have n6 : l6.length = l5.length + 4 := by rw [g6]; simp [dig4]
  refine To.run 1 ?_
  refine To.at (fn := Try.f10) (n := 11) (l := [(4, Value.slice a6 l6.length cap6), (25, Value.agg #[Value.int IntKind.u32 (↑z.a.toNat : Int), Value.int IntKind.u32 (↑z.b.toNat : Int), Value.int IntKind.u32 (↑z.c.toNat : Int), Value.int IntKind.u32 (↑z.d.toNat : Int), Value.int IntKind.u32 (↑z.e.toNat : Int), Value.int IntKind.u32 (↑z.f.toNat : Int), Value.int IntKind.u32 (↑z.g.toNat : Int), Value.int IntKind.u32 (↑z.h.toNat : Int)]), (26, Value.int IntKind.i64 6)]) (by kernel_rfl) fun j => ?_
  refine To.run 18 ?_
  refine To.known 31 _ (by kernel_rfl) (U_shr (z.g) (24) (24) rfl) ?_
  refine To.run 1 ?_
  refine To.known 32 _ (by kernel_rfl) (U_to8 (z.g >>> 24)) ?_
  refine To.run 2 ?_
  refine To.known 34 _ (by kernel_rfl) (U_shr (z.g) (16) (16) rfl) ?_
  refine To.run 1 ?_
  refine To.known 35 _ (by kernel_rfl) (U_to8 (z.g >>> 16)) ?_
  refine To.run 2 ?_
  refine To.known 37 _ (by kernel_rfl) (U_shr (z.g) (8) (8) rfl) ?_
  refine To.run 1 ?_
  refine To.known 38 _ (by kernel_rfl) (U_to8 (z.g >>> 8)) ?_
  refine To.run 2 ?_
  refine To.known 40 _ (by kernel_rfl) (U_to8 (z.g)) ?_
  refine To.one (One.slit (t := 28) (n := 4) (parts := [(0, Value.int IntKind.u8 (↑(lo8 (z.g >>> 24)).toNat : Int)), (1, Value.int IntKind.u8 (↑(lo8 (z.g >>> 16)).toNat : Int)), (2, Value.int IntKind.u8 (↑(lo8 (z.g >>> 8)).toNat : Int)), (3, Value.int IntKind.u8 (↑(lo8 z.g).toNat : Int))]) 5 [Value.int IntKind.u8 (↑(lo8 (z.g >>> 24)).toNat : Int), Value.int IntKind.u8 (↑(lo8 (z.g >>> 16)).toNat : Int), Value.int IntKind.u8 (↑(lo8 (z.g >>> 8)).toNat : Int), Value.int IntKind.u8 (↑(lo8 z.g).toNat : Int)] hs (by kernel_rfl) (by kernel_rfl) fun b7 w13 hs1 => ?_)
  clear hs
  refine To.one (One.appRow 1 (t := 28) (ty := 28) (e := 5) (by_ := 1) (a := a6) (cap := cap6) (m := 4) (cp := 4) (n := l6.length) (xs := List.map u8V l6) (news := [Value.int IntKind.u8 (↑(lo8 (z.g >>> 24)).toNat : Int), Value.int IntKind.u8 (↑(lo8 (z.g >>> 16)).toNat : Int), Value.int IntKind.u8 (↑(lo8 (z.g >>> 8)).toNat : Int), Value.int IntKind.u8 (↑(lo8 z.g).toNat : Int)]) (b := b7) (off := 0) hs1 rfl (by kernel_rfl) (by first | rfl | (simp; done)) (by kernel_rfl) (by first | rfl | (simp; done)) (fun j u hj => cell_row hs1 0 rfl hj) (by kernel_rfl) (by first | omega | (simp; omega)) (by first | omega | (simp; omega)) fun a7 cap7 w14 hs2 => ?_)
  simp only [List.set_cons_zero, List.set_cons_succ] at hs2
  clear hs1
  replace hs2 := Sat.selDrop hs2 3 [1, 2] (by decide) (by decide)
  simp only [pickAll, List.filterMap_cons, List.filterMap_nil, List.getElem?_cons_zero, List.getElem?_cons_succ, List.cons_append, List.nil_append, List.drop_succ_cons, List.drop_zero] at hs2
  refine To.run 7 ?_
  obtain ⟨l7, g7⟩ : ∃ l, l = l6 ++ dig4 z.g := ⟨_, rfl⟩
  refine To.known 4 _ (by kernel_rfl) (snocLen4 l6 (lo8 (z.g >>> 24)) (lo8 (z.g >>> 16)) (lo8 (z.g >>> 8)) (lo8 z.g) a7 cap7) ?_
  have hs := snoc_row4 hs2 g7
  clear hs2
  rw [show l6 ++ [lo8 (z.g >>> 24), lo8 (z.g >>> 16), lo8 (z.g >>> 8), lo8 z.g] = l7 from g7.symm]
  have n7 : l7.length = l6.length + 4 := by rw [g7]; simp [dig4]
  refine To.run 1 ?_
  refine To.at (fn := Try.f10) (n := 11) (l := [(4, Value.slice a7 l7.length cap7), (25, Value.agg #[Value.int IntKind.u32 (↑z.a.toNat : Int), Value.int IntKind.u32 (↑z.b.toNat : Int), Value.int IntKind.u32 (↑z.c.toNat : Int), Value.int IntKind.u32 (↑z.d.toNat : Int), Value.int IntKind.u32 (↑z.e.toNat : Int), Value.int IntKind.u32 (↑z.f.toNat : Int), Value.int IntKind.u32 (↑z.g.toNat : Int), Value.int IntKind.u32 (↑z.h.toNat : Int)]), (26, Value.int IntKind.i64 7)]) (by kernel_rfl) fun j => ?_
  refine To.run 18 ?_
  refine To.known 31 _ (by kernel_rfl) (U_shr (z.h) (24) (24) rfl) ?_
  refine To.run 1 ?_
  refine To.known 32 _ (by kernel_rfl) (U_to8 (z.h >>> 24)) ?_
  refine To.run 2 ?_
  refine To.known 34 _ (by kernel_rfl) (U_shr (z.h) (16) (16) rfl) ?_
  refine To.run 1 ?_
  refine To.known 35 _ (by kernel_rfl) (U_to8 (z.h >>> 16)) ?_
  refine To.run 2 ?_
  refine To.known 37 _ (by kernel_rfl) (U_shr (z.h) (8) (8) rfl) ?_
  refine To.run 1 ?_
  refine To.known 38 _ (by kernel_rfl) (U_to8 (z.h >>> 8)) ?_
  refine To.run 2 ?_
  refine To.known 40 _ (by kernel_rfl) (U_to8 (z.h)) ?_
  refine To.one (One.slit (t := 28) (n := 4) (parts := [(0, Value.int IntKind.u8 (↑(lo8 (z.h >>> 24)).toNat : Int)), (1, Value.int IntKind.u8 (↑(lo8 (z.h >>> 16)).toNat : Int)), (2, Value.int IntKind.u8 (↑(lo8 (z.h >>> 8)).toNat : Int)), (3, Value.int IntKind.u8 (↑(lo8 z.h).toNat : Int))]) 5 [Value.int IntKind.u8 (↑(lo8 (z.h >>> 24)).toNat : Int), Value.int IntKind.u8 (↑(lo8 (z.h >>> 16)).toNat : Int), Value.int IntKind.u8 (↑(lo8 (z.h >>> 8)).toNat : Int), Value.int IntKind.u8 (↑(lo8 z.h).toNat : Int)] hs (by kernel_rfl) (by kernel_rfl) fun b8 w15 hs1 => ?_)
  clear hs
  refine To.one (One.appRow 1 (t := 28) (ty := 28) (e := 5) (by_ := 1) (a := a7) (cap := cap7) (m := 4) (cp := 4) (n := l7.length) (xs := List.map u8V l7) (news := [Value.int IntKind.u8 (↑(lo8 (z.h >>> 24)).toNat : Int), Value.int IntKind.u8 (↑(lo8 (z.h >>> 16)).toNat : Int), Value.int IntKind.u8 (↑(lo8 (z.h >>> 8)).toNat : Int), Value.int IntKind.u8 (↑(lo8 z.h).toNat : Int)]) (b := b8) (off := 0) hs1 rfl (by kernel_rfl) (by first | rfl | (simp; done)) (by kernel_rfl) (by first | rfl | (simp; done)) (fun j u hj => cell_row hs1 0 rfl hj) (by kernel_rfl) (by first | omega | (simp; omega)) (by first | omega | (simp; omega)) fun a8 cap8 w16 hs2 => ?_)
  simp only [List.set_cons_zero, List.set_cons_succ] at hs2
  clear hs1
  replace hs2 := Sat.selDrop hs2 3 [1, 2] (by decide) (by decide)
  simp only [pickAll, List.filterMap_cons, List.filterMap_nil, List.getElem?_cons_zero, List.getElem?_cons_succ, List.cons_append, List.nil_append, List.drop_succ_cons, List.drop_zero] at hs2
  refine To.run 7 ?_
  obtain ⟨l8, g8⟩ : ∃ l, l = l7 ++ dig4 z.h := ⟨_, rfl⟩
  refine To.known 4 _ (by kernel_rfl) (snocLen4 l7 (lo8 (z.h >>> 24)) (lo8 (z.h >>> 16)) (lo8 (z.h >>> 8)) (lo8 z.h) a8 cap8) ?_
  have hs := snoc_row4 hs2 g8
  clear hs2
  rw [show l7 ++ [lo8 (z.h >>> 24), lo8 (z.h >>> 16), lo8 (z.h >>> 8), lo8 z.h] = l8 from g8.symm]
  have n8 : l8.length = l7.length + 4 := by rw [g8]; simp [dig4]
  refine To.run 1 ?_
  refine To.at (fn := Try.f10) (n := 11) (l := [(4, Value.slice a8 l8.length cap8), (25, Value.agg #[Value.int IntKind.u32 (↑z.a.toNat : Int), Value.int IntKind.u32 (↑z.b.toNat : Int), Value.int IntKind.u32 (↑z.c.toNat : Int), Value.int IntKind.u32 (↑z.d.toNat : Int), Value.int IntKind.u32 (↑z.e.toNat : Int), Value.int IntKind.u32 (↑z.f.toNat : Int), Value.int IntKind.u32 (↑z.g.toNat : Int), Value.int IntKind.u32 (↑z.h.toNat : Int)]), (26, Value.int IntKind.i64 8)]) (by kernel_rfl) fun j => ?_
  refine To.run 10 ?_
  refine To.one (One.b2s 0 (src := 28) (dst := 9) (a := a8) (cap := cap8) (n := l8.length) (e := 5) (l8) hs rfl (by kernel_rfl) (by first | rfl | (simp; done)) (by kernel_rfl) (by kernel_rfl) ?_)
  refine To.run 2 ?_
  refine To.retv Try.func10 (by kernel_rfl) (v := Value.string { data := l8.toArray : ByteArray }) (by kernel_rfl) ?_
  have hfin : digest z = l8 := by
    rw [g8, g7, g6, g5, g4, g3, g2, g1, g0]
    simp [digest, St8.list]
  exact ⟨_, _, rfl, ⟨by rw [hfin], rfl⟩, hs.sub ((List.sublist_cons_self _ _).cons _)⟩

theorem padL_len (many : Int) : (padL many).length = padZ many + 9 := by simp [padL]
theorem pad_whole (n : Nat) : (n + (padL n).length) % 64 = 0 := by
  rw [padL_len]
  unfold padZ
  omega
theorem app_list (s p : ByteArray) : (s ++ p).data.toList = s.data.toList ++ p.data.toList := by simp

theorem Sum_ok (s : ByteArray) (hs0 : s.size ≤ 4000000) : Trip Try.prog 10 [.string s] [] (fun v l => v = .string ⟨(sumL s.data.toList).toArray⟩ ∧ l = []) := by
  refine Trip.of Try.func10 (by kernel_rfl) fun E w L hs => ?_
  simp only [List.nil_append] at hs
  have hz := padZ_lt (s.size : Int)
  obtain ⟨p, hp⟩ : ∃ p : ByteArray, p = ⟨(padL (s.size : Int)).toArray⟩ := ⟨_, rfl⟩
  have hpl : p.data.toList = padL (s.size : Int) := by rw [hp]
  have hps : p.size = padZ (s.size : Int) + 9 := by rw [size_list, hpl, padL_len]
  have c1 := Pad_ok (s.size : Int) (by omega) (by omega)
  rw [← hp] at c1
  have hw := pad_whole s.size
  have hsz : (s ++ p).size = 64 * ((s.size + (padL (s.size : Int)).length) / 64) := by
    rw [ByteArray.size_append, size_list p, hpl]
    omega
  refine To.run 6 ?_
  refine To.one (One.call 0 [] [] (g := 18) (args := []) (by kernel_rfl) hs (Start_ok) (by decide) rfl ?_)
  rintro _ _ w1 ⟨rfl, rfl⟩ hs1
  simp only [pickAll, List.filterMap_cons, List.filterMap_nil, List.getElem?_cons_zero, List.getElem?_cons_succ, List.cons_append, List.nil_append, List.drop_succ_cons, List.drop_zero] at hs1
  clear hs
  refine To.one (One.alloc (t := 26) [Value.int IntKind.u32 0, Value.int IntKind.u32 0, Value.int IntKind.u32 0, Value.int IntKind.u32 0, Value.int IntKind.u32 0, Value.int IntKind.u32 0, Value.int IntKind.u32 0, Value.int IntKind.u32 0] hs1 (by kernel_rfl) (by kernel_rfl) fun b1 w2 hs2 => ?_)
  clear hs1
  refine To.one (One.store 0 (t := 26) (off := 0) (v := Value.agg #[Value.int IntKind.u32 1779033703, Value.int IntKind.u32 3144134277, Value.int IntKind.u32 1013904242, Value.int IntKind.u32 2773480762, Value.int IntKind.u32 1359893119, Value.int IntKind.u32 2600822924, Value.int IntKind.u32 528734635, Value.int IntKind.u32 1541459225]) (vs' := [Value.int IntKind.u32 1779033703, Value.int IntKind.u32 3144134277, Value.int IntKind.u32 1013904242, Value.int IntKind.u32 2773480762, Value.int IntKind.u32 1359893119, Value.int IntKind.u32 2600822924, Value.int IntKind.u32 528734635, Value.int IntKind.u32 1541459225]) hs2 rfl (by kernel_rfl) (by kernel_rfl) (by kernel_rfl) fun w3 hs1 => ?_)
  simp only [List.set_cons_zero, List.set_cons_succ] at hs1
  clear hs2
  refine To.run 8 ?_
  refine To.known 11 (v := .int .u64 (IntKind.u64.wrap ((↑s.size : Int)))) (.int .u64 ((↑s.size : Int))) (by kernel_rfl) (by rw [wrap_u64 (by omega) (by omega)]) ?_
  refine To.one (One.call 1 [] [0] (g := 16) (args := [Value.int IntKind.u64 (↑s.size : Int)]) (by kernel_rfl) hs1 (c1) (by decide) rfl ?_)
  rintro _ _ w4 ⟨rfl, rfl⟩ hs2
  simp only [pickAll, List.filterMap_cons, List.filterMap_nil, List.getElem?_cons_zero, List.getElem?_cons_succ, List.cons_append, List.nil_append, List.drop_succ_cons, List.drop_zero] at hs2
  clear hs1
  refine To.one (One.cat (t := 9) (x := s) (y := p) (by kernel_rfl) (by first | omega | (simp; omega)) ?_)
  refine To.run 3 ?_
  refine To.run 1 ?_
  refine To.at (fn := Try.f10) (n := 4) (l := [(0, Value.string (s ++ p)), (3, Value.pointer (some { block := b1, off := 0 : Addr }))]) (by kernel_rfl) fun j => ?_
  have hs9 : Sat E _ (cel b1 26 (st0.list.map U) :: L) := hs2
  have h := Sum_loop E _ L b1 (blocksS st0 (s.data.toList ++ padL (s.size : Int)) ((s.size + (padL (s.size : Int)).length) / 64)) (fun j w hs => Sum_end E L b1 _ j w hs) _ st0 (s ++ p) j _ hsz (by rw [app_list, hpl]) hs9
  have e : sumL s.data.toList = digest (blocksS st0 (s.data.toList ++ padL (s.size : Int)) ((s.size + (padL (s.size : Int)).length) / 64)) := by
    unfold sumL
    rw [← size_list]
  rw [e]
  exact h
end Go.Proofs.Ytkddomellpldjaa
