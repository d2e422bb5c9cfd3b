import Derived.Test.YtkddomellpldjaaProg
import Derived.Test.YtkddomellpldjaaSxStr
import Derived.Test.YtkddomellpldjaaSpad
set_option linter.unusedSimpArgs false
set_option linter.unusedVariables false
namespace Go.Proofs.Ytkddomellpldjaa
open Go Go.Sx
set_option linter.unusedSimpArgs false
set_option maxHeartbeats 0
set_option maxRecDepth 20000

/-- A digit. -/
def hexd (n : Nat) : UInt8 := [48, 49, 50, 51, 52, 53, 54, 55, 56, 57, 97, 98, 99, 100, 101, 102].getD n 0
def hexL (bs : List UInt8) : List UInt8 := bs.flatMap fun b => [hexd (b.toNat / 16), hexd (b.toNat % 16)]

theorem digits_at : ∀ n, n < 16 → (ByteArray.data ⟨#[48, 49, 50, 51, 52, 53, 54, 55, 56, 57, 97, 98, 99, 100, 101, 102]⟩).toList[n]? = some (hexd n) := by
  intro n hn
  have : ∀ n : Fin 16, (ByteArray.data ⟨#[48, 49, 50, 51, 52, 53, 54, 55, 56, 57, 97, 98, 99, 100, 101, 102]⟩).toList[n.val]? = some (hexd n.val) := by decide
  exact this ⟨n, hn⟩

theorem snocLen2 (l : List UInt8) (b c : UInt8) (a : Option Addr) (cap : Nat) : Value.slice a (l.map u8V ++ [u8V b, u8V c]).length cap = Value.slice a (l ++ [b, c]).length cap := by simp
theorem snoc_row2 {E w : World} {L : List Res} {a : Option Addr} {cap : Nat} {l l' : List UInt8} {b c : UInt8} (h : Sat E w (row a cap 5 (l.map u8V ++ [u8V b, u8V c]) :: L)) (e : l' = l ++ [b, c]) : Sat E w (row a cap 5 (l'.map u8V) :: L) := by
  rw [e, List.map_append]; exact h

theorem hexL_len (bs : List UInt8) : (hexL bs).length = 2 * bs.length := by
  unfold hexL
  induction bs with
  | nil => rfl
  | cons b bs ih => simp only [List.flatMap_cons, List.length_append, ih]; simp; omega
theorem hexL_snoc (bs : List UInt8) (b : UInt8) : hexL (bs ++ [b]) = hexL bs ++ [hexd (b.toNat / 16), hexd (b.toNat % 16)] := by simp [hexL]

theorem Hex_loop (E : World) (L : List Res) (bb cp : Nat) (bs : List UInt8) (hb : bs.length ≤ 4000000) : ∀ (m k : Nat) (l : List UInt8) (a : Option Addr) (cap : Nat) (j : Nat → Value) (w : World), k + m = bs.length → l = hexL (bs.take k) → Sat E w (row a cap 5 (l.map u8V) :: bts bb (bs.map u8V) :: L) →
    To Try.prog 12 (Cfg.here Try.f12 4 j [(3, .slice a l.length cap), (7, .slice (some ⟨bb, 0, none⟩) bs.length cp), (8, .int .i64 bs.length), (9, .int .i64 k)]) w (Fins E L (fun v l => v = .string ⟨(hexL bs).toArray⟩ ∧ l = [])) := by
  intro m
  induction m with
  | zero =>
    intro k l a cap j w hk hl hs
    obtain rfl : k = bs.length := by omega
    rw [List.take_length] at hl
    refine To.run 5 ?_
    refine To.isFalse 10 (t := decide ((↑bs.length : Int) < (↑bs.length : Int))) (by kernel_rfl) (by simp) ?_
    refine To.run 5 ?_
    refine To.one (One.b2s 0 (src := 28) (dst := 9) (a := a) (cap := cap) (n := l.length) (e := 5) (l) hs rfl (by kernel_rfl) (by first | rfl | (simp; done)) (by kernel_rfl) (by kernel_rfl) ?_)
    refine To.run 2 ?_
    refine To.retv Try.func12 (by kernel_rfl) (v := Value.string { data := l.toArray }) (by kernel_rfl) ?_
    exact ⟨_, _, rfl, ⟨by rw [hl], rfl⟩, hs.sub ((List.sublist_cons_self _ _).cons _)⟩
  | succ m ih =>
    intro k l a cap j w hk hl hs
    have h1 : k < bs.length := by omega
    obtain ⟨x, hx⟩ : ∃ x, bs[k] = x := ⟨_, rfl⟩
    have hbk : (bs.map u8V)[k]? = some (u8V x) := by
      rw [List.getElem?_map, List.getElem?_eq_getElem h1, hx]; rfl
    have hll : l.length = 2 * k := by rw [hl, hexL_len]; simp; omega
    have hd := digits_at
    have hx1 : x.toNat / 16 < 16 := by have := x.toNat_lt; omega
    have hx2 : x.toNat % 16 < 16 := by omega
    obtain ⟨l', g⟩ : ∃ l', l' = l ++ [hexd (x.toNat / 16), hexd (x.toNat % 16)] := ⟨_, rfl⟩
    refine To.run 5 ?_
    refine To.isTrue 10 (t := decide ((↑k : Int) < (↑bs.length : Int))) (by kernel_rfl) (by (simp; omega)) ?_
    refine To.run 6 ?_
    refine To.one (One.ixa (k) ((k)) (t := 28) (b := bb) (off := 0) (len := bs.length) (cap := cp) (e := 5) (sz := 1) (kd := IntKind.i64) (i := (↑k : Int)) (by kernel_rfl) (by kernel_rfl) (rfl) (by first | omega | (simp; done) | (simp; omega)) (by omega) ?_)
    refine To.one (One.loadBts 1 (k) (t := 5) (b := bb) (off := k) (u := u8V x) hs rfl (by kernel_rfl) (by first | rfl | omega) (hbk) (by kernel_rfl) ?_)
    refine To.run 2 ?_
    refine To.draw [] [] 10 hs (by kernel_rfl) (by kernel_rfl) (by kernel_rfl) fun w1 hs1 => ?_
    clear hs
    have hb1 := Sat.holds hs1 [] rfl
    refine Reg.pures [0, 1, 2] (fuel' := 7) (.inl hb1) rfl (by kernel_rfl) ?_
    refine Reg.known 15 _ (by kernel_rfl) (bx_shr4 (x)) ?_
    refine Reg.pures [4, 5] (fuel' := 5) (.inl hb1) rfl (by kernel_rfl) ?_
    refine Reg.known 18 _ (by kernel_rfl) (bx_and15 (x)) ?_
    refine Reg.val 3 (.inl hb1) (by kernel_rfl) (by kernel_rfl) (fun w' => Val.ixS (x.toNat / 16) (t := 9) (s := { data := #[48, 49, 50, 51, 52, 53, 54, 55, 56, 57, 97, 98, 99, 100, 101, 102] }) (kd := IntKind.u8) (i := (↑(x.toNat / 16) : Int)) (x := hexd (x.toNat / 16)) (by kernel_rfl) (by kernel_rfl) (rfl) (hd (x.toNat / 16) (by assumption))) ?_
    refine Reg.step 6 (by kernel_rfl) (One.ixS (x.toNat % 16) (t := 9) (s := { data := #[48, 49, 50, 51, 52, 53, 54, 55, 56, 57, 97, 98, 99, 100, 101, 102] }) (kd := IntKind.u8) (i := (↑(x.toNat % 16) : Int)) (x := hexd (x.toNat % 16)) (by kernel_rfl) (by kernel_rfl) (rfl) (hd (x.toNat % 16) (by assumption)) ?_)
    have hb2 := Sat.holds hs1 [] (B := []) rfl
    refine ⟨.inl hb2, ?_⟩
    refine Reg.step 7 (by kernel_rfl) (One.slit (t := 28) (n := 2) (parts := [(0, Value.int IntKind.u8 (↑(hexd (x.toNat / 16)).toNat : Int)), (1, Value.int IntKind.u8 (↑(hexd (x.toNat % 16)).toNat : Int))]) 5 [Value.int IntKind.u8 (↑(hexd (x.toNat / 16)).toNat : Int), Value.int IntKind.u8 (↑(hexd (x.toNat % 16)).toNat : Int)] hs1 (by kernel_rfl) (by kernel_rfl) fun b1 w2 hs2 => ?_)
    clear hs1
    have hb3 := Sat.holds hs2 [] (B := []) rfl
    refine ⟨.inl hb3, ?_⟩
    refine Reg.step 8 (by kernel_rfl) (One.appRow 1 (t := 28) (ty := 28) (e := 5) (by_ := 1) (a := a) (cap := cap) (m := 2) (cp := 2) (n := l.length) (xs := List.map u8V l) (news := [Value.int IntKind.u8 (↑(hexd (x.toNat / 16)).toNat : Int), Value.int IntKind.u8 (↑(hexd (x.toNat % 16)).toNat : Int)]) (b := b1) (off := 0) hs2 rfl (by kernel_rfl) (by first | rfl | (simp; done)) (by kernel_rfl) (by first | rfl | (simp; done)) (fun j u hj => cell_row hs2 0 rfl hj) (by kernel_rfl) (by first | omega | (simp; omega)) (by first | omega | (simp; omega)) fun a1 cap1 w3 hs1 => ?_)
    simp only [List.set_cons_zero, List.set_cons_succ] at hs1
    clear hs2
    replace hs1 := Sat.selDrop hs1 3 [1, 2] (by decide) (by decide)
    simp only [pickAll, List.filterMap_cons, List.filterMap_nil, List.getElem?_cons_zero, List.getElem?_cons_succ, List.cons_append, List.nil_append, List.drop_succ_cons, List.drop_zero] at hs1
    have hb4 := Sat.holds hs1 [] (B := []) rfl
    refine ⟨.inl hb4, ?_⟩
    refine Reg.pures [9] (fuel' := 0) (.inl hb4) rfl (by kernel_rfl) ?_
    refine Reg.done (by kernel_rfl) ?_
    refine To.run 3 ?_
    refine To.known 22 (v := .int .i64 (IntKind.i64.wrap ((↑k : Int) + 1))) (.int .i64 ((↑k : Int) + 1)) (by kernel_rfl) (by rw [wrap_i64 (by omega) (by omega)]) ?_
    refine To.run 2 ?_
    refine To.known 3 _ (by kernel_rfl) (snocLen2 l (hexd (x.toNat / 16)) (hexd (x.toNat % 16)) a1 cap1) ?_
    rw [← g]
    have hs := snoc_row2 hs1 g
    clear hs1
    refine To.run 1 ?_
    refine To.at (fn := Try.f12) (n := 4) (l := [(3, Value.slice a1 l'.length cap1), (7, Value.slice (some { block := bb, off := 0 }) bs.length cp), (8, Value.int IntKind.i64 (↑bs.length : Int)), (9, Value.int IntKind.i64 ((↑k : Int) + 1))]) (by kernel_rfl) fun j => ?_
    exact ih (k + 1) l' _ _ _ _ (by omega) (by rw [g, hl, List.take_succ_eq_append_getElem h1, hexL_snoc, hx]) hs
theorem size_list (s : ByteArray) : s.size = s.data.toList.length := by rw [Array.length_toList]; rfl

theorem Hex_ok (s : ByteArray) (hs0 : s.size ≤ 4000000) : Trip Try.prog 12 [.string s] [] (fun v l => v = .string ⟨(hexL s.data.toList).toArray⟩ ∧ l = []) := by
  refine Trip.of Try.func12 (by kernel_rfl) fun E w L hs => ?_
  simp only [List.nil_append] at hs
  have hz := size_list s
  refine To.run 12 ?_
  refine To.one (One.s2b (src := 9) (dst := 28) (s := s) hs (by kernel_rfl) (by kernel_rfl) (by kernel_rfl) fun b1 cap1 w1 hs1 => ?_)
  clear hs
  refine To.run 4 ?_
  refine To.known 7 (v := .slice (some ⟨b1, 0, none⟩) s.size cap1) (.slice (some ⟨b1, 0, none⟩) s.data.toList.length cap1) (by kernel_rfl) (by rw [← hz]) ?_
  refine To.known 8 (v := .int .i64 s.size) (.int .i64 s.data.toList.length) (by kernel_rfl) (by rw [← hz]) ?_
  refine To.run 1 ?_
  refine To.at (fn := Try.f12) (n := 4) (l := [(3, Value.slice none 0 0), (7, Value.slice (some { block := b1, off := 0 }) s.data.toList.length cap1), (8, Value.int IntKind.i64 (↑s.data.toList.length : Int)), (9, Value.int IntKind.i64 0)]) (by kernel_rfl) fun j => ?_
  exact Hex_loop E L b1 cap1 s.data.toList (by omega) _ 0 [] none 0 _ _ (Nat.zero_add _) rfl (hs1.rowNil 0)

theorem RHex_loop (E : World) (L : List Res) (s : ByteArray) (hb : s.data.toList.length ≤ 4000000) : ∀ (m k : Nat) (l : List UInt8) (a : Option Addr) (cap : Nat) (j : Nat → Value) (w : World), k + m = s.data.toList.length → l = hexL (s.data.toList.take k) → Sat E w (row a cap 5 (l.map u8V) :: L) →
    To Try.prog 13 (Cfg.here Try.f13 4 j [(0, .string s), (3, .slice a l.length cap), (4, .int .i64 k)]) w (Fins E L (fun v l => v = .string ⟨(hexL s.data.toList).toArray⟩ ∧ l = [])) := by
  have hz := size_list s
  intro m
  induction m with
  | zero =>
    intro k l a cap j w hk hl hs
    have hkz : k = s.size := by omega
    rw [List.take_of_length_le (by omega)] at hl
    refine To.run 8 ?_
    refine To.isFalse 8 (t := decide ((↑k : Int) < (↑s.size : Int))) (by kernel_rfl) (by (simp; omega)) ?_
    refine To.run 5 ?_
    refine To.one (One.b2s 0 (src := 28) (dst := 9) (a := a) (cap := cap) (n := l.length) (e := 5) (l) hs rfl (by kernel_rfl) (by first | rfl | (simp; done)) (by kernel_rfl) (by kernel_rfl) ?_)
    refine To.run 2 ?_
    refine To.retv Try.func13 (by kernel_rfl) (v := Value.string { data := l.toArray }) (by kernel_rfl) ?_
    exact ⟨_, _, rfl, ⟨by rw [hl], rfl⟩, hs.sub (List.sublist_cons_self _ _)⟩
  | succ m ih =>
    intro k l a cap j w hk hl hs
    have h1 : k < s.data.toList.length := by omega
    have h2 : k < s.size := by omega
    obtain ⟨x, hx⟩ : ∃ x, s.data.toList[k] = x := ⟨_, rfl⟩
    have hbk : s.data.toList[k]? = some x := by rw [List.getElem?_eq_getElem h1, hx]
    have hll : l.length = 2 * k := by rw [hl, hexL_len]; simp; omega
    have hd := digits_at
    have hx1 : x.toNat / 16 < 16 := by have := x.toNat_lt; omega
    have hx2 : x.toNat % 16 < 16 := by omega
    obtain ⟨l', g⟩ : ∃ l', l' = l ++ [hexd (x.toNat / 16), hexd (x.toNat % 16)] := ⟨_, rfl⟩
    refine To.run 8 ?_
    refine To.isTrue 8 (t := decide ((↑k : Int) < (↑s.size : Int))) (by kernel_rfl) (by (simp; omega)) ?_
    refine To.run 4 ?_
    refine To.draw [] [] 14 hs (by kernel_rfl) (by kernel_rfl) (by kernel_rfl) fun w1 hs1 => ?_
    clear hs
    have hb1 := Sat.holds hs1 [] rfl
    refine Reg.pures [0, 1, 2, 6, 7] (fuel' := 9) (.inl hb1) rfl (by kernel_rfl) ?_
    refine Reg.val 3 (.inl hb1) (by kernel_rfl) (by kernel_rfl) (fun w' => Val.ixS (k) (t := 9) (s := s) (kd := IntKind.i64) (i := (↑k : Int)) (x := x) (by kernel_rfl) (by kernel_rfl) (rfl) (hbk)) ?_
    refine Reg.pures [4] (fuel' := 7) (.inl hb1) rfl (by kernel_rfl) ?_
    refine Reg.known 15 _ (by kernel_rfl) (bx_quo16 (x)) ?_
    refine Reg.val 5 (.inl hb1) (by kernel_rfl) (by kernel_rfl) (fun w' => Val.ixS (x.toNat / 16) (t := 9) (s := { data := #[48, 49, 50, 51, 52, 53, 54, 55, 56, 57, 97, 98, 99, 100, 101, 102] }) (kd := IntKind.u8) (i := (↑(x.toNat / 16) : Int)) (x := hexd (x.toNat / 16)) (by kernel_rfl) (by kernel_rfl) (rfl) (hd (x.toNat / 16) (by assumption))) ?_
    refine Reg.step 8 (by kernel_rfl) (One.ixS (k) (t := 9) (s := s) (kd := IntKind.i64) (i := (↑k : Int)) (x := x) (by kernel_rfl) (by kernel_rfl) (rfl) (hbk) ?_)
    have hb2 := Sat.holds hs1 [] (B := []) rfl
    refine ⟨.inl hb2, ?_⟩
    refine Reg.pures [9] (fuel' := 4) (.inl hb2) rfl (by kernel_rfl) ?_
    refine Reg.known 20 _ (by kernel_rfl) (bx_rem16 (x)) ?_
    refine Reg.step 10 (by kernel_rfl) (One.ixS (x.toNat % 16) (t := 9) (s := { data := #[48, 49, 50, 51, 52, 53, 54, 55, 56, 57, 97, 98, 99, 100, 101, 102] }) (kd := IntKind.u8) (i := (↑(x.toNat % 16) : Int)) (x := hexd (x.toNat % 16)) (by kernel_rfl) (by kernel_rfl) (rfl) (hd (x.toNat % 16) (by assumption)) ?_)
    have hb3 := Sat.holds hs1 [] (B := []) rfl
    refine ⟨.inl hb3, ?_⟩
    refine Reg.step 11 (by kernel_rfl) (One.slit (t := 28) (n := 2) (parts := [(0, Value.int IntKind.u8 (↑(hexd (x.toNat / 16)).toNat : Int)), (1, Value.int IntKind.u8 (↑(hexd (x.toNat % 16)).toNat : Int))]) 5 [Value.int IntKind.u8 (↑(hexd (x.toNat / 16)).toNat : Int), Value.int IntKind.u8 (↑(hexd (x.toNat % 16)).toNat : Int)] hs1 (by kernel_rfl) (by kernel_rfl) fun b1 w2 hs2 => ?_)
    clear hs1
    have hb4 := Sat.holds hs2 [] (B := []) rfl
    refine ⟨.inl hb4, ?_⟩
    refine Reg.step 12 (by kernel_rfl) (One.appRow 1 (t := 28) (ty := 28) (e := 5) (by_ := 1) (a := a) (cap := cap) (m := 2) (cp := 2) (n := l.length) (xs := List.map u8V l) (news := [Value.int IntKind.u8 (↑(hexd (x.toNat / 16)).toNat : Int), Value.int IntKind.u8 (↑(hexd (x.toNat % 16)).toNat : Int)]) (b := b1) (off := 0) hs2 rfl (by kernel_rfl) (by first | rfl | (simp; done)) (by kernel_rfl) (by first | rfl | (simp; done)) (fun j u hj => cell_row hs2 0 rfl hj) (by kernel_rfl) (by first | omega | (simp; omega)) (by first | omega | (simp; omega)) fun a1 cap1 w3 hs1 => ?_)
    simp only [List.set_cons_zero, List.set_cons_succ] at hs1
    clear hs2
    replace hs1 := Sat.selDrop hs1 2 [1] (by decide) (by decide)
    simp only [pickAll, List.filterMap_cons, List.filterMap_nil, List.getElem?_cons_zero, List.getElem?_cons_succ, List.cons_append, List.nil_append, List.drop_succ_cons, List.drop_zero] at hs1
    have hb5 := Sat.holds hs1 [] (B := []) rfl
    refine ⟨.inl hb5, ?_⟩
    refine Reg.pures [13] (fuel' := 0) (.inl hb5) rfl (by kernel_rfl) ?_
    refine Reg.done (by kernel_rfl) ?_
    refine To.run 4 ?_
    refine To.known 10 (v := .int .i64 (IntKind.i64.wrap ((↑k : Int) + 1))) (.int .i64 ((↑k : Int) + 1)) (by kernel_rfl) (by rw [wrap_i64 (by omega) (by omega)]) ?_
    refine To.run 2 ?_
    refine To.known 3 _ (by kernel_rfl) (snocLen2 l (hexd (x.toNat / 16)) (hexd (x.toNat % 16)) a1 cap1) ?_
    rw [← g]
    have hs := snoc_row2 hs1 g
    clear hs1
    refine To.run 1 ?_
    refine To.at (fn := Try.f13) (n := 4) (l := [(0, Value.string s), (3, Value.slice a1 l'.length cap1), (4, Value.int IntKind.i64 ((↑k : Int) + 1))]) (by kernel_rfl) fun j => ?_
    exact ih (k + 1) l' _ _ _ _ (by omega) (by rw [g, hl, List.take_succ_eq_append_getElem h1, hexL_snoc, hx]) hs

theorem RHex_ok (s : ByteArray) (hs0 : s.size ≤ 4000000) : Trip Try.prog 13 [.string s] [] (fun v l => v = .string ⟨(hexL s.data.toList).toArray⟩ ∧ l = []) := by
  refine Trip.of Try.func13 (by kernel_rfl) fun E w L hs => ?_
  simp only [List.nil_append] at hs
  have hz := size_list s
  refine To.run 14 ?_
  refine To.run 1 ?_
  refine To.at (fn := Try.f13) (n := 4) (l := [(0, Value.string s), (3, Value.slice none 0 0), (4, Value.int IntKind.i64 0)]) (by kernel_rfl) fun j => ?_
  exact RHex_loop E L s (by omega) _ 0 [] none 0 _ _ (Nat.zero_add _) rfl (hs.rowNil 0)
end Go.Proofs.Ytkddomellpldjaa
