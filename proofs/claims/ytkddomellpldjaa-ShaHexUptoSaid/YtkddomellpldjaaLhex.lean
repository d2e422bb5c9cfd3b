import Derived.Test.YtkddomellpldjaaProg
import Derived.Test.YtkddomellpldjaaSxStr
import Derived.Test.YtkddomellpldjaaSex
set_option linter.unusedSimpArgs false
set_option linter.unusedVariables false
namespace Go.Proofs.Ytkddomellpldjaa
open Go Go.Sx
set_option linter.unusedSimpArgs false
set_option maxHeartbeats 0
set_option maxRecDepth 20000

theorem hexd_is : ∀ n, n < 16 → (48 ≤ (hexd n).toNat ∧ (hexd n).toNat ≤ 57) ∨ (97 ≤ (hexd n).toNat ∧ (hexd n).toNat ≤ 102) := by
  intro n hn
  have : ∀ n : Fin 16, (48 ≤ (hexd n.val).toNat ∧ (hexd n.val).toNat ≤ 57) ∨ (97 ≤ (hexd n.val).toNat ∧ (hexd n.val).toNat ≤ 102) := by decide
  exact this ⟨n, hn⟩
theorem hexd_inj : ∀ n m, n < 16 → m < 16 → hexd n = hexd m → n = m := by
  intro n m hn hm h
  have : ∀ n m : Fin 16, hexd n.val = hexd m.val → n = m := by decide
  exact Fin.mk.inj_iff.1 (this ⟨n, hn⟩ ⟨m, hm⟩ h)
theorem hexL_mem (bs : List UInt8) : ∀ x ∈ hexL bs, (48 ≤ x.toNat ∧ x.toNat ≤ 57) ∨ (97 ≤ x.toNat ∧ x.toNat ≤ 102) := by
  intro x hx
  obtain ⟨b, _, hb⟩ := List.mem_flatMap.1 hx
  have hlt := b.toNat_lt
  rcases List.mem_cons.1 hb with rfl | hb
  · exact hexd_is _ (by omega)
  · rw [List.mem_singleton.1 hb]
    exact hexd_is _ (by omega)
theorem hexL_inj : ∀ (a b : List UInt8), hexL a = hexL b → a = b
  | [], [], _ => rfl
  | [], y :: b, h => by
    have := congrArg List.length h
    rw [hexL_len, hexL_len] at this
    simp at this
  | x :: a, [], h => by
    have := congrArg List.length h
    rw [hexL_len, hexL_len] at this
    simp at this
  | x :: a, y :: b, h => by
    have h' : hexd (x.toNat / 16) :: hexd (x.toNat % 16) :: hexL a = hexd (y.toNat / 16) :: hexd (y.toNat % 16) :: hexL b := h
    injection h' with h1 h2
    injection h2 with h2 h3
    have e := hexL_inj a b h3
    have hx := x.toNat_lt
    have hy := y.toNat_lt
    have e1 := hexd_inj _ _ (by omega) (by omega) h1
    have e2 := hexd_inj _ _ (by omega) (by omega) h2
    have e3 : x = y := UInt8.toNat_inj.1 (by omega)
    rw [e, e3]
theorem hexL_app (a b : List UInt8) : hexL (a ++ b) = hexL a ++ hexL b := by simp [hexL]

theorem LH_loop (W : World) (s t A : ByteArray) (hA : ∀ x ∈ A.data.toList, (48 ≤ x.toNat ∧ x.toNat ≤ 57) ∨ (97 ≤ x.toNat ∧ x.toNat ≤ 102)) (hAl : A.size ≤ 8000000)
    (fin : ∀ (j : Nat → Value) (w : World), Sat W w [old W] → To Try.prog 6 (Cfg.here Try.f6 13 j [(0, .string s), (1, .string t), (7, .bool true), (8, .string A), (9, .int .i64 A.size)]) w (LawEnd W)) :
    ∀ (m k : Nat) (j : Nat → Value) (w : World), k + m = A.size → Sat W w [old W] →
    To Try.prog 6 (Cfg.here Try.f6 13 j [(0, .string s), (1, .string t), (7, .bool true), (8, .string A), (9, .int .i64 k)]) w (LawEnd W) := by
  intro m
  induction m with
  | zero =>
    intro k j w hk hs
    obtain rfl : k = A.size := by omega
    exact fin j w hs
  | succ m ih =>
    intro k j w hk hs
    have hlt : k < A.data.toList.length := by rw [← size_list]; omega
    obtain ⟨x, hx⟩ : ∃ x, A.data.toList[k] = x := ⟨_, rfl⟩
    have hbk : A.data.toList[k]? = some x := by rw [List.getElem?_eq_getElem hlt, hx]
    have hm : x ∈ A.data.toList := by rw [← hx]; exact List.getElem_mem hlt
    have hkA : k < A.size := by omega
    clear fin
    rcases hA x hm with h | h
    · clear hA
      refine To.run 8 ?_
      refine To.isTrue 26 (t := decide ((↑k : Int) < (↑A.size : Int))) (by kernel_rfl) (by (simp; omega)) ?_
      refine To.run 8 ?_
      refine To.one (One.ixS (k) (t := 9) (s := A) (kd := IntKind.i64) (i := (↑k : Int)) (x := x) (by kernel_rfl) (by kernel_rfl) (rfl) (hbk) ?_)
      refine To.run 2 ?_
      refine To.isFalse 33 (t := decide ((↑x.toNat : Int) < 48)) (by kernel_rfl) (by (simp; omega)) ?_
      refine To.run 2 ?_
      refine To.one (One.ixS (k) (t := 9) (s := A) (kd := IntKind.i64) (i := (↑k : Int)) (x := x) (by kernel_rfl) (by kernel_rfl) (rfl) (hbk) ?_)
      refine To.run 3 ?_
      refine To.isFalse 39 (t := decide ((↑x.toNat : Int) > 57)) (by kernel_rfl) (by (simp; omega)) ?_
      refine To.run 18 ?_
      refine To.known 28 (v := .int .i64 (IntKind.i64.wrap ((↑k : Int) + 1))) (.int .i64 ((↑k : Int) + 1)) (by kernel_rfl) (by rw [wrap_i64 (by omega) (by omega)]) ?_
      refine To.run 2 ?_
      refine To.run 1 ?_
      refine To.at (fn := Try.f6) (n := 13) (l := [(0, Value.string s), (1, Value.string t), (7, Value.bool true), (8, Value.string A), (9, Value.int IntKind.i64 ((↑k : Int) + 1))]) (by kernel_rfl) fun j => ?_
      exact ih (k + 1) _ _ (by omega) hs
    · clear hA
      refine To.run 8 ?_
      refine To.isTrue 26 (t := decide ((↑k : Int) < (↑A.size : Int))) (by kernel_rfl) (by (simp; omega)) ?_
      refine To.run 8 ?_
      refine To.one (One.ixS (k) (t := 9) (s := A) (kd := IntKind.i64) (i := (↑k : Int)) (x := x) (by kernel_rfl) (by kernel_rfl) (rfl) (hbk) ?_)
      refine To.run 2 ?_
      refine To.isFalse 33 (t := decide ((↑x.toNat : Int) < 48)) (by kernel_rfl) (by (simp; omega)) ?_
      refine To.run 2 ?_
      refine To.one (One.ixS (k) (t := 9) (s := A) (kd := IntKind.i64) (i := (↑k : Int)) (x := x) (by kernel_rfl) (by kernel_rfl) (rfl) (hbk) ?_)
      refine To.run 3 ?_
      refine To.isTrue 39 (t := decide ((↑x.toNat : Int) > 57)) (by kernel_rfl) (by (simp; omega)) ?_
      refine To.run 2 ?_
      refine To.one (One.ixS (k) (t := 9) (s := A) (kd := IntKind.i64) (i := (↑k : Int)) (x := x) (by kernel_rfl) (by kernel_rfl) (rfl) (hbk) ?_)
      refine To.run 2 ?_
      refine To.isFalse 44 (t := decide ((↑x.toNat : Int) < 97)) (by kernel_rfl) (by (simp; omega)) ?_
      refine To.run 2 ?_
      refine To.one (One.ixS (k) (t := 9) (s := A) (kd := IntKind.i64) (i := (↑k : Int)) (x := x) (by kernel_rfl) (by kernel_rfl) (rfl) (hbk) ?_)
      refine To.run 4 ?_
      refine To.isFalse 50 (t := decide ((↑x.toNat : Int) > 102)) (by kernel_rfl) (by (simp; omega)) ?_
      refine To.run 6 ?_
      refine To.known 28 (v := .int .i64 (IntKind.i64.wrap ((↑k : Int) + 1))) (.int .i64 ((↑k : Int) + 1)) (by kernel_rfl) (by rw [wrap_i64 (by omega) (by omega)]) ?_
      refine To.run 2 ?_
      refine To.run 1 ?_
      refine To.at (fn := Try.f6) (n := 13) (l := [(0, Value.string s), (1, Value.string t), (7, Value.bool true), (8, Value.string A), (9, Value.int IntKind.i64 ((↑k : Int) + 1))]) (by kernel_rfl) fun j => ?_
      exact ih (k + 1) _ _ (by omega) hs

theorem LH_end (W : World) (s t : ByteArray) (hs0 : s.size ≤ 1100000) (ht0 : t.size ≤ 1100000) (j : Nat → Value) (w : World) (hs : Sat W w [old W]) :
    To Try.prog 6 (Cfg.here Try.f6 13 j [(0, .string s), (1, .string t), (7, .bool true), (8, .string ⟨(hexL s.data.toList).toArray⟩), (9, .int .i64 (⟨(hexL s.data.toList).toArray⟩ : ByteArray).size)]) w (LawEnd W) := by
  obtain ⟨A, hA⟩ : ∃ A : ByteArray, A = ⟨(hexL s.data.toList).toArray⟩ := ⟨_, rfl⟩
  obtain ⟨B, hB⟩ : ∃ A : ByteArray, A = ⟨(hexL t.data.toList).toArray⟩ := ⟨_, rfl⟩
  obtain ⟨D, hD⟩ : ∃ A : ByteArray, A = ⟨(hexL (s ++ t).data.toList).toArray⟩ := ⟨_, rfl⟩
  have hAl : A.data.toList = hexL s.data.toList := by rw [hA]
  have hBl : B.data.toList = hexL t.data.toList := by rw [hB]
  have hDl : D.data.toList = hexL (s ++ t).data.toList := by rw [hD]
  have hAz : A.size ≤ 2200000 := by rw [size_list, hAl, hexL_len, ← size_list]; omega
  have hBz : B.size ≤ 2200000 := by rw [size_list, hBl, hexL_len, ← size_list]; omega
  have hst : (s ++ t).size ≤ 4000000 := by rw [ByteArray.size_append]; omega
  have c1 := Hex_ok t (by omega)
  have c2 := Hex_ok (s ++ t) hst
  rw [← hB] at c1
  rw [← hD] at c2
  rw [← hA]
  have e1 : ((A.toList == B.toList) == (s.toList == t.toList)) = true := by
    rw [beq_iff_eq, Bool.eq_iff_iff, beq_iff_eq, beq_iff_eq, ByteArray.toList_eq, ByteArray.toList_eq, ByteArray.toList_eq, ByteArray.toList_eq, hAl, hBl]
    exact ⟨hexL_inj _ _, fun h => by rw [h]⟩
  have e2 : (D.toList == (A ++ B).toList) = true := by
    rw [beq_iff_eq, ByteArray.toList_eq, ByteArray.toList_eq, hDl, app_list, app_list, hexL_app, hAl, hBl]
  clear hA hB hD hAl hBl hDl
  refine To.run 8 ?_
  refine To.isFalse 26 (t := decide ((↑A.size : Int) < (↑A.size : Int))) (by kernel_rfl) (by simp) ?_
  refine To.run 8 ?_
  refine To.one (One.call 1 [] [0] (g := 12) (args := [Value.string t]) (by kernel_rfl) hs (c1) (by decide) rfl ?_)
  rintro _ _ w1 ⟨rfl, rfl⟩ hs1
  simp only [pickAll, List.filterMap_cons, List.filterMap_nil, List.getElem?_cons_zero, List.getElem?_cons_succ, List.cons_append, List.nil_append, List.drop_succ_cons, List.drop_zero] at hs1
  clear hs
  refine To.run 7 ?_
  refine To.isTrue 62 (t := (A.toList == B.toList) == (s.toList == t.toList)) (by kernel_rfl) (by assumption) ?_
  refine To.run 2 ?_
  refine To.one (One.cat (t := 9) (x := s) (y := t) (by kernel_rfl) (by first | omega | (simp; omega)) ?_)
  refine To.one (One.call 1 [] [0] (g := 12) (args := [Value.string (s ++ t)]) (by kernel_rfl) hs1 (c2) (by decide) rfl ?_)
  rintro _ _ w2 ⟨rfl, rfl⟩ hs2
  simp only [pickAll, List.filterMap_cons, List.filterMap_nil, List.getElem?_cons_zero, List.getElem?_cons_succ, List.cons_append, List.nil_append, List.drop_succ_cons, List.drop_zero] at hs2
  clear hs1
  refine To.run 2 ?_
  refine To.one (One.call 1 [] [0] (g := 12) (args := [Value.string t]) (by kernel_rfl) hs2 (c1) (by decide) rfl ?_)
  rintro _ _ w3 ⟨rfl, rfl⟩ hs1
  simp only [pickAll, List.filterMap_cons, List.filterMap_nil, List.getElem?_cons_zero, List.getElem?_cons_succ, List.cons_append, List.nil_append, List.drop_succ_cons, List.drop_zero] at hs1
  clear hs2
  refine To.one (One.cat (t := 9) (x := A) (y := B) (by kernel_rfl) (by first | omega | (simp; omega)) ?_)
  refine To.run 4 ?_
  refine To.retv Try.func6 (by kernel_rfl) (v := Value.bool (D.toList == (A ++ B).toList)) (by kernel_rfl) ?_
  rw [e2]
  exact hs1.lawEnd 0 rfl

theorem LH_law (W : World) (s t : ByteArray) (same : Bool) (hs0 : s.size ≤ 1100000) (ht0 : t.size ≤ 1100000) : Calls Try.prog 6 #[.string s, .string t, .bool same] W (LawEnd W) := by
  refine Sx.start (args := [_, _, _]) Try.func6 (by kernel_rfl) ?_
  have hs := Sat.start W
  obtain ⟨A, hA⟩ : ∃ A : ByteArray, A = ⟨(hexL s.data.toList).toArray⟩ := ⟨_, rfl⟩
  have hAl : A.data.toList = hexL s.data.toList := by rw [hA]
  have hAz : A.size = 2 * s.size := by rw [size_list, hAl, hexL_len, ← size_list]
  have c1 := Hex_ok s (by omega)
  rw [← hA] at c1
  have hm : ∀ x ∈ A.data.toList, (48 ≤ x.toNat ∧ x.toNat ≤ 57) ∨ (97 ≤ x.toNat ∧ x.toNat ≤ 102) := by rw [hAl]; exact hexL_mem _
  cases same with
  | true =>
    have fin := fun j w hs => LH_end W s s hs0 hs0 j w hs
    rw [← hA] at fin
    clear hA hAl
    have h := LH_loop W s s A hm (by omega) fin A.size 0
    clear hm fin
    refine To.run 6 ?_
    refine To.one (One.call 1 [] [0] (g := 9) (args := []) (by kernel_rfl) hs (Ex_ok) (by decide) rfl ?_)
    rintro _ _ w1 ⟨rfl, rfl⟩ hs1
    simp only [pickAll, List.filterMap_cons, List.filterMap_nil, List.getElem?_cons_zero, List.getElem?_cons_succ, List.cons_append, List.nil_append, List.drop_succ_cons, List.drop_zero] at hs1
    clear hs
    refine To.run 23 ?_
    refine To.one (One.call 1 [] [0] (g := 12) (args := [Value.string s]) (by kernel_rfl) hs1 (c1) (by decide) rfl ?_)
    rintro _ _ w2 ⟨rfl, rfl⟩ hs2
    simp only [pickAll, List.filterMap_cons, List.filterMap_nil, List.getElem?_cons_zero, List.getElem?_cons_succ, List.cons_append, List.nil_append, List.drop_succ_cons, List.drop_zero] at hs2
    clear hs1
    refine To.run 10 ?_
    refine To.known 21 (v := .int .i64 (IntKind.i64.wrap (2 * (↑s.size : Int)))) (.int .i64 (2 * (↑s.size : Int))) (by kernel_rfl) (by rw [wrap_i64 (by omega) (by omega)]) ?_
    refine To.run 2 ?_
    refine To.isFalse 22 (t := (↑A.size : Int) != 2 * (↑s.size : Int)) (by kernel_rfl) (by (simp; omega)) ?_
    refine To.run 8 ?_
    refine To.run 1 ?_
    refine To.at (fn := Try.f6) (n := 13) (l := [(0, Value.string s), (1, Value.string s), (7, Value.bool true), (8, Value.string A), (9, Value.int IntKind.i64 0)]) (by kernel_rfl) fun j => ?_
    exact h _ _ (by omega) (by first | exact hs1 | exact hs2 | exact hs3)
  | false =>
    have fin := fun j w hs => LH_end W s t hs0 ht0 j w hs
    rw [← hA] at fin
    clear hA hAl
    have h := LH_loop W s t A hm (by omega) fin A.size 0
    clear hm fin
    refine To.run 6 ?_
    refine To.one (One.call 1 [] [0] (g := 9) (args := []) (by kernel_rfl) hs (Ex_ok) (by decide) rfl ?_)
    rintro _ _ w1 ⟨rfl, rfl⟩ hs1
    simp only [pickAll, List.filterMap_cons, List.filterMap_nil, List.getElem?_cons_zero, List.getElem?_cons_succ, List.cons_append, List.nil_append, List.drop_succ_cons, List.drop_zero] at hs1
    clear hs
    refine To.run 20 ?_
    refine To.one (One.call 1 [] [0] (g := 12) (args := [Value.string s]) (by kernel_rfl) hs1 (c1) (by decide) rfl ?_)
    rintro _ _ w2 ⟨rfl, rfl⟩ hs2
    simp only [pickAll, List.filterMap_cons, List.filterMap_nil, List.getElem?_cons_zero, List.getElem?_cons_succ, List.cons_append, List.nil_append, List.drop_succ_cons, List.drop_zero] at hs2
    clear hs1
    refine To.run 10 ?_
    refine To.known 21 (v := .int .i64 (IntKind.i64.wrap (2 * (↑s.size : Int)))) (.int .i64 (2 * (↑s.size : Int))) (by kernel_rfl) (by rw [wrap_i64 (by omega) (by omega)]) ?_
    refine To.run 2 ?_
    refine To.isFalse 22 (t := (↑A.size : Int) != 2 * (↑s.size : Int)) (by kernel_rfl) (by (simp; omega)) ?_
    refine To.run 8 ?_
    refine To.run 1 ?_
    refine To.at (fn := Try.f6) (n := 13) (l := [(0, Value.string s), (1, Value.string t), (7, Value.bool true), (8, Value.string A), (9, Value.int IntKind.i64 0)]) (by kernel_rfl) fun j => ?_
    exact h _ _ (by omega) (by first | exact hs1 | exact hs2 | exact hs3)
end Go.Proofs.Ytkddomellpldjaa
