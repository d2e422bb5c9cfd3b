/- NetLanes: what is done with one lane changes no other one: each gives what was sent there, in order. No condition. -/
import Derived.Test.YthojpcfaaiefhaaRows
import Derived.WalkKit
import Derived.ProofKit
import Derived.OpenShut
import Derived.Test.YthojpcfaaiefhaaSxLaw
import Derived.Test.YthojpcfaaiefhaaNlaneb
namespace Go.Proofs.Ythojpcfaaiefhaa.netLanes
open Go Go.ChangeShapes Go.WideShapes Go.ChangeAt Go.RowKit Go.Sx
set_option linter.unusedVariables false

theorem own : ownKnob Try.prog.godebug = none := by kernel_rfl

theorem laid : laidOutB Try.prog = true := by kernel_rfl

set_option maxRecDepth 100000 in
theorem lifted (os : Os) (started : os.Started) (H : Type) (enc : TypeId × Value → H) :
    ReturnsInHanded {} Try.checked os 8 .any (Rows.netLanesSpec.pre6 enc Try.prog Try.f8 Rows.netLanesRow.domain false) (Rows.netLanesSpec.post enc Try.prog Try.f8 false true false false) := by
  refine returnsInHanded_of_change (C := Try.checked) own started (by kernel_rfl) Try.func8
    (ChangeSpec.witness6 (enc := enc) (C := Try.checked) false ⟨#[], #[.slice none 0 0], []⟩ 8 (by kernel_rfl) (by kernel_rfl) (by kernel_rfl) (by kernel_rfl)) ?_
  intro W base args ds gs before hval0 hW hcnd _
  have hval : ∀ (j : Nat) t v, Try.f8.params[j]? = some t → args[j]? = some v → Value.okWide Try.prog W .any base t v := hval0
  have hW' := hW
  obtain ⟨p, q, hA0, hV, rfl, hfz, hnd⟩ := hW
  have hA : DataW.TrodAll enc Try.prog W 0 (fun _ => true) true Try.f8.params.toList args.toList ds p := hA0
  rw [Try.params8] at hA hval
  obtain ⟨v0, vs0, d0, ds0, p0, q0, hargs, rfl, rfl, h0, r0⟩ := trodAll_cons hA
  obtain ⟨rfl, rfl, rfl⟩ := trodAll_nil r0
  obtain rfl : args = #[v0] := by cases args; simp_all
  obtain ⟨rfl, rfl⟩ := trodVars_none hV
  obtain ⟨al0, len0, cap0, rfl, hlc0, hcm0, hd0⟩ := arg_slice (n := 10) (e := 5) (l := [.int .u8]) Try.underlying89 (by kernel_rfl) (by kernel_rfl) (by decide) h0 (okWide_slice Try.underlying89 (hval 0 89 v0 rfl rfl))
  clear hA0 hval0
  simp only [List.append_nil] at hW'
  have hxs : ∃ xs : List Int, xs.length = len0 ∧ Bytes W al0 xs := by
    rcases hd0 with h | ⟨b, off, h, hc⟩
    · exact ⟨[], by simp; omega, fun i x hi => by simp at hi⟩
    · obtain ⟨xs, hl, hq⟩ := exists_list (fun i s => 0 ≤ s ∧ s ≤ 255 ∧ W.cell? ⟨b, off + i, none⟩ = some (.int .u8 s)) len0 (fun i hi => by
        obtain ⟨cs, hok, hcs⟩ := hc i (by omega)
        obtain ⟨_, cs1, rfl, ⟨s, rfl, hn⟩, hok1⟩ := hok.uncons
        have := hcs 0 _ rfl
        simp only [List.length_cons, List.length_nil, Nat.zero_add, Nat.mul_one, Nat.add_zero] at this
        simp only [Lit.wf, Bool.and_eq_true, decide_eq_true_eq] at hn
        exact ⟨s, hn.1, hn.2, this⟩)
      exact ⟨xs, hl, fun i x hi => ⟨(hq i x hi).1, (hq i x hi).2.1, b, off, h, (hq i x hi).2.2⟩⟩
  refine (NL_law W al0 len0 cap0 hxs).mono fun e W' ⟨he, hg⟩ => ?_
  subst he
  exact ⟨_, rfl, law_post 4 laid hW' rfl rfl Try.underlying4 (by kernel_rfl) rfl hg⟩

theorem over : Rows.netLanesRow.holds Try.pinned (OpenSpec.ofChange Rows.netLanesSpec) :=
  OpenClaim.holds_of_wide 8 Try.f8 rfl rfl rfl rfl rfl rfl rfl ⟨rfl, rfl, rfl, rfl, rfl⟩ rfl rfl rfl rfl rfl (by kernel_rfl) Try.func8 (by kernel_rfl)
    (of_decide_eq_true (by kernel_rfl)) (by unfold Func.isWrapper; first | (rw [if_pos (by decide +kernel)]; kernel_rfl) | (rw [if_neg (by decide +kernel)]; exact ⟨rfl, rfl⟩))
    (fun os started H enc _ => lifted os started H enc)

/-- The statement. -/
theorem proved : Rows.NetLanesSaid :=
  over
end Go.Proofs.Ythojpcfaaiefhaa.netLanes

