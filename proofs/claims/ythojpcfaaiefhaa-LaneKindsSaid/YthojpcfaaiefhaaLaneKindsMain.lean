/- LaneKinds: lanes of different things do not meddle; nothing of the input turns. -/
import Derived.Test.YthojpcfaaiefhaaRows
import Derived.WalkKit
import Derived.ProofKit
import Derived.OpenShut
import Derived.Test.YthojpcfaaiefhaaSxLaw
import Derived.Test.YthojpcfaaiefhaaLkinds
namespace Go.Proofs.Ythojpcfaaiefhaa.laneKinds
open Go Go.ChangeShapes Go.WideShapes Go.ChangeAt Go.RowKit Go.Sx
set_option linter.unusedVariables false

theorem own : ownKnob Try.prog.godebug = none := by kernel_rfl

theorem laid : laidOutB Try.prog = true := by kernel_rfl

set_option maxRecDepth 100000 in
theorem lifted (os : Os) (started : os.Started) (H : Type) (enc : TypeId × Value → H) :
    ReturnsInHanded {} Try.checked os 5 .any (Rows.laneKindsSpec.pre6 enc Try.prog Try.f5 Rows.laneKindsRow.domain false) (Rows.laneKindsSpec.post enc Try.prog Try.f5 false true false false) := by
  refine returnsInHanded_of_change (C := Try.checked) own started (by kernel_rfl) Try.func5
    (ChangeSpec.witness6 (enc := enc) (C := Try.checked) false ⟨#[], #[.slice none 0 0, .slice none 0 0], []⟩ 8 (by kernel_rfl) (by kernel_rfl) (by kernel_rfl) (by kernel_rfl)) ?_
  intro W base args ds gs before hval0 hW hcnd _
  have hval : ∀ (j : Nat) t v, Try.f5.params[j]? = some t → args[j]? = some v → Value.okWide Try.prog W .any base t v := hval0
  have hW' := hW
  obtain ⟨p, q, hA0, hV, rfl, hfz, hnd⟩ := hW
  have hA : DataW.TrodAll enc Try.prog W 0 (fun _ => true) true Try.f5.params.toList args.toList ds p := hA0
  rw [Try.params5] at hA hval
  obtain ⟨v0, vs0, d0, ds0, p0, q0, hargs, rfl, rfl, h0, r0⟩ := trodAll_cons hA
  obtain ⟨v1, vs1, d1, ds1, p1, q1, rfl, rfl, rfl, h1, r1⟩ := trodAll_cons r0
  obtain ⟨rfl, rfl, rfl⟩ := trodAll_nil r1
  obtain rfl : args = #[v0, v1] := by cases args; simp_all
  obtain ⟨rfl, rfl⟩ := trodVars_none hV
  obtain ⟨al0, len0, cap0, rfl, hlc0, hcm0, hd0⟩ := arg_slice (n := 10) (e := 56) (l := [.int .u64]) Try.underlying51 (by kernel_rfl) (by kernel_rfl) (by decide) h0 (okWide_slice Try.underlying51 (hval 0 51 v0 rfl rfl))
  obtain ⟨al1, len1, cap1, rfl, hlc1, hcm1, hd1⟩ := arg_slice (n := 10) (e := 4) (l := [.bool]) Try.underlying52 (by kernel_rfl) (by kernel_rfl) (by decide) h1 (okWide_slice Try.underlying52 (hval 1 52 v1 rfl rfl))
  clear hA0 hval0
  simp only [List.append_nil] at hW'
  obtain ⟨xs, hxl, hx⟩ : ∃ xs : List Int, xs.length = min len0 16 ∧ Told (Value.int .u64) W al0 xs := by
    rcases hd0 with h | ⟨b, off, h, hc⟩
    · exact ⟨[], by rw [h]; rfl, fun i x hi => by simp at hi⟩
    · obtain ⟨xs, hl, hq⟩ := exists_list (fun i s => W.cell? ⟨b, off + i, none⟩ = some (.int .u64 s)) (min len0 16) (fun i hi => by
        obtain ⟨cs, hok, hcs⟩ := hc i (by omega)
        obtain ⟨_, cs1, rfl, ⟨s, rfl, hn⟩, hok1⟩ := hok.uncons
        have := hcs 0 _ rfl
        simp only [List.length_cons, List.length_nil, Nat.zero_add, Nat.mul_one, Nat.add_zero] at this
        exact ⟨s, this⟩)
      exact ⟨xs, hl, fun i x hi => ⟨b, off, h, hq i x hi⟩⟩
  obtain ⟨ys, hyl, hy⟩ : ∃ ys : List Bool, ys.length = min len1 16 ∧ Told Value.bool W al1 ys := by
    rcases hd1 with h | ⟨b, off, h, hc⟩
    · exact ⟨[], by rw [h]; rfl, fun i x hi => by simp at hi⟩
    · obtain ⟨xs, hl, hq⟩ := exists_list (fun i s => W.cell? ⟨b, off + i, none⟩ = some (.bool s)) (min len1 16) (fun i hi => by
        obtain ⟨cs, hok, hcs⟩ := hc i (by omega)
        obtain ⟨_, cs1, rfl, ⟨s, rfl⟩, hok1⟩ := hok.uncons
        have := hcs 0 _ rfl
        simp only [List.length_cons, List.length_nil, Nat.zero_add, Nat.mul_one, Nat.add_zero] at this
        exact ⟨s, this⟩)
      exact ⟨xs, hl, fun i x hi => ⟨b, off, h, hq i x hi⟩⟩
  refine (LK_law W al0 len0 cap0 al1 len1 cap1 xs hx hxl ys hy hyl).mono fun e W' ⟨he, hg⟩ => ?_
  subst he
  exact ⟨_, rfl, law_post 4 laid hW' rfl rfl Try.underlying4 (by kernel_rfl) rfl hg⟩

theorem over : Rows.laneKindsRow.holds Try.pinned (OpenSpec.ofChange Rows.laneKindsSpec) :=
  OpenClaim.holds_of_wide 5 Try.f5 rfl rfl rfl rfl rfl rfl rfl ⟨rfl, rfl, rfl, rfl, rfl⟩ rfl rfl rfl rfl rfl (by kernel_rfl) Try.func5 (by kernel_rfl)
    (of_decide_eq_true (by kernel_rfl)) (by unfold Func.isWrapper; first | (rw [if_pos (by decide +kernel)]; kernel_rfl) | (rw [if_neg (by decide +kernel)]; exact ⟨rfl, rfl⟩))
    (fun os started H enc _ => lifted os started H enc)

/-- The statement. -/
theorem proved : Rows.LaneKindsSaid :=
  over
end Go.Proofs.Ythojpcfaaiefhaa.laneKinds

