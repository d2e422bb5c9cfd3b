import Derived.Test.YtkddomellpldjaaProg
import Derived.Test.YtkddomellpldjaaSxStr
import Derived.Test.YtkddomellpldjaaSex
import Derived.Test.YtkddomellpldjaaSrsum
set_option linter.unusedSimpArgs false
set_option linter.unusedVariables false
namespace Go.Proofs.Ytkddomellpldjaa
open Go Go.Sx
set_option linter.unusedSimpArgs false
set_option maxHeartbeats 0
set_option maxRecDepth 20000

theorem LS_law (W : World) (s t : ByteArray) (hs0 : s.size ≤ 1100000) (ht0 : t.size ≤ 1100000) : Calls Try.prog 3 #[.string s, .string t] W (LawEnd W) := by
  refine Sx.start (args := [_, _]) Try.func3 (by kernel_rfl) ?_
  have hs := Sat.start W
  obtain ⟨A, hA⟩ : ∃ A : ByteArray, A = ⟨(sumL s.data.toList).toArray⟩ := ⟨_, rfl⟩
  obtain ⟨B, hB⟩ : ∃ A : ByteArray, A = ⟨(hexL t.data.toList).toArray⟩ := ⟨_, rfl⟩
  have c1 := Sum_ok s (by omega)
  have c2 := RSum_ok s (by omega)
  have c3 := Hex_ok t (by omega)
  have c4 := RHex_ok t (by omega)
  rw [← hA] at c1 c2
  rw [← hB] at c3 c4
  have e1 : (A.toList == A.toList) = true := by rw [beq_self_eq_true]
  have e2 : (B.toList == B.toList) = true := by rw [beq_self_eq_true]
  clear hA hB
  refine To.run 6 ?_
  refine To.one (One.call 1 [] [0] (g := 9) (args := []) (by kernel_rfl) hs (Ex_ok) (by decide) rfl ?_)
  rintro _ _ w1 ⟨rfl, rfl⟩ hs1
  simp only [pickAll, List.filterMap_cons, List.filterMap_nil, List.getElem?_cons_zero, List.getElem?_cons_succ, List.cons_append, List.nil_append, List.drop_succ_cons, List.drop_zero] at hs1
  clear hs
  refine To.run 15 ?_
  refine To.one (One.call 1 [] [0] (g := 10) (args := [Value.string s]) (by kernel_rfl) hs1 (c1) (by decide) rfl ?_)
  rintro _ _ w2 ⟨rfl, rfl⟩ hs2
  simp only [pickAll, List.filterMap_cons, List.filterMap_nil, List.getElem?_cons_zero, List.getElem?_cons_succ, List.cons_append, List.nil_append, List.drop_succ_cons, List.drop_zero] at hs2
  clear hs1
  refine To.run 1 ?_
  refine To.one (One.call 1 [] [0] (g := 11) (args := [Value.string s]) (by kernel_rfl) hs2 (c2) (by decide) rfl ?_)
  rintro _ _ w3 ⟨rfl, rfl⟩ hs1
  simp only [pickAll, List.filterMap_cons, List.filterMap_nil, List.getElem?_cons_zero, List.getElem?_cons_succ, List.cons_append, List.nil_append, List.drop_succ_cons, List.drop_zero] at hs1
  clear hs2
  refine To.run 3 ?_
  refine To.isTrue 17 (t := A.toList == A.toList) (by kernel_rfl) (by assumption) ?_
  refine To.run 1 ?_
  refine To.one (One.call 1 [] [0] (g := 12) (args := [Value.string t]) (by kernel_rfl) hs1 (c3) (by decide) rfl ?_)
  rintro _ _ w4 ⟨rfl, rfl⟩ hs2
  simp only [pickAll, List.filterMap_cons, List.filterMap_nil, List.getElem?_cons_zero, List.getElem?_cons_succ, List.cons_append, List.nil_append, List.drop_succ_cons, List.drop_zero] at hs2
  clear hs1
  refine To.run 1 ?_
  refine To.one (One.call 1 [] [0] (g := 13) (args := [Value.string t]) (by kernel_rfl) hs2 (c4) (by decide) rfl ?_)
  rintro _ _ w5 ⟨rfl, rfl⟩ hs1
  simp only [pickAll, List.filterMap_cons, List.filterMap_nil, List.getElem?_cons_zero, List.getElem?_cons_succ, List.cons_append, List.nil_append, List.drop_succ_cons, List.drop_zero] at hs1
  clear hs2
  refine To.run 4 ?_
  refine To.retv Try.func3 (by kernel_rfl) (v := Value.bool (B.toList == B.toList)) (by kernel_rfl) ?_
  rw [e2]
  exact hs1.lawEnd 0 rfl
end Go.Proofs.Ytkddomellpldjaa
