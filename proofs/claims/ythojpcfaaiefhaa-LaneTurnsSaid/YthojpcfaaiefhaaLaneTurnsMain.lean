/- LaneTurns: taken and put again as often as there are things, a lane is as it was; nothing of the input turns. -/
import Derived.Test.YthojpcfaaiefhaaRows
import Derived.WalkKit
import Derived.ProofKit
import Derived.OpenShut
import Derived.Test.YthojpcfaaiefhaaSxLaw
import Derived.Test.YthojpcfaaiefhaaLturns
namespace Go.Proofs.Ythojpcfaaiefhaa.laneTurns
open Go Go.ChangeShapes Go.WideShapes Go.ChangeAt Go.RowKit Go.Sx
set_option linter.unusedVariables false

theorem own : ownKnob Try.prog.godebug = none := by kernel_rfl

theorem laid : laidOutB Try.prog = true := by kernel_rfl

set_option maxRecDepth 100000 in
theorem lifted (os : Os) (started : os.Started) (H : Type) (enc : TypeId × Value → H) :
    ReturnsInHanded {} Try.checked os 6 .any (Rows.laneTurnsSpec.pre6 enc Try.prog Try.f6 Rows.laneTurnsRow.domain false) (Rows.laneTurnsSpec.post enc Try.prog Try.f6 false true false false) := by
  refine returnsInHanded_of_change (C := Try.checked) own started (by kernel_rfl) Try.func6
    (ChangeSpec.witness6 (enc := enc) (C := Try.checked) false ⟨#[], #[.int .u8 0, .slice none 0 0], []⟩ 8 (by kernel_rfl) (by kernel_rfl) (by kernel_rfl) (by kernel_rfl)) ?_
  intro W base args ds gs before hval0 hW hcnd _
  have hval : ∀ (j : Nat) t v, Try.f6.params[j]? = some t → args[j]? = some v → Value.okWide Try.prog W .any base t v := hval0
  have hW' := hW
  obtain ⟨p, q, hA0, hV, rfl, hfz, hnd⟩ := hW
  have hA : DataW.TrodAll enc Try.prog W 0 (fun _ => true) true Try.f6.params.toList args.toList ds p := hA0
  rw [Try.params6] at hA hval
  obtain ⟨v0, vs0, d0, ds0, p0, q0, hargs, rfl, rfl, h0, r0⟩ := trodAll_cons hA
  obtain ⟨v1, vs1, d1, ds1, p1, q1, rfl, rfl, rfl, h1, r1⟩ := trodAll_cons r0
  obtain ⟨rfl, rfl, rfl⟩ := trodAll_nil r1
  obtain rfl : args = #[v0, v1] := by cases args; simp_all
  obtain ⟨rfl, rfl⟩ := trodVars_none hV
  obtain ⟨a0, rfl, rfl, rfl, w0⟩ := open_int Try.underlying5 (hval 0 5 v0 rfl rfl) h0
  obtain ⟨al1, len1, cap1, rfl, hlc1, hcm1, hd1⟩ := arg_slice (n := 10) (e := 71) (l := [.int .u16]) Try.underlying67 (by kernel_rfl) (by kernel_rfl) (by decide) h1 (okWide_slice Try.underlying67 (hval 1 67 v1 rfl rfl))
  clear hA0 hval0
  simp only [List.append_nil] at hW'
  have hxs : ∀ m, m ≤ len1 → ∃ xs : List Int, xs.length = m ∧ Told (Value.int .u16) W al1 xs := by
    intro m hm
    rcases hd1 with h | ⟨b, off, h, hc⟩
    · exact ⟨[], by simp; omega, fun i x hi => by simp at hi⟩
    · obtain ⟨xs, hl, hq⟩ := exists_list (fun i s => W.cell? ⟨b, off + i, none⟩ = some (.int .u16 s)) m (fun i hi => by
        obtain ⟨cs, hok, hcs⟩ := hc i (by omega)
        obtain ⟨_, cs1, rfl, ⟨s, rfl, hn⟩, hok1⟩ := hok.uncons
        have := hcs 0 _ rfl
        simp only [List.length_cons, List.length_nil, Nat.zero_add, Nat.mul_one, Nat.add_zero] at this
        exact ⟨s, this⟩)
      exact ⟨xs, hl, fun i x hi => ⟨b, off, h, hq i x hi⟩⟩
  have hw : 0 ≤ a0 ∧ a0 ≤ 255 := by
    have := w0
    simp only [Lit.wf, Bool.and_eq_true, decide_eq_true_eq] at this
    exact ⟨this.1, this.2⟩
  refine (LT_law W a0 hw.1 hw.2 al1 len1 cap1 hxs).mono fun e W' ⟨he, hg⟩ => ?_
  subst he
  exact ⟨_, rfl, law_post 4 laid hW' rfl rfl Try.underlying4 (by kernel_rfl) rfl hg⟩

theorem over : Rows.laneTurnsRow.holds Try.pinned (OpenSpec.ofChange Rows.laneTurnsSpec) :=
  OpenClaim.holds_of_wide 6 Try.f6 rfl rfl rfl rfl rfl rfl rfl ⟨rfl, rfl, rfl, rfl, rfl⟩ rfl rfl rfl rfl rfl (by kernel_rfl) Try.func6 (by kernel_rfl)
    (of_decide_eq_true (by kernel_rfl)) (by unfold Func.isWrapper; first | (rw [if_pos (by decide +kernel)]; kernel_rfl) | (rw [if_neg (by decide +kernel)]; exact ⟨rfl, rfl⟩))
    (fun os started H enc _ => lifted os started H enc)

/-- The statement. -/
theorem proved : Rows.LaneTurnsSaid :=
  over
end Go.Proofs.Ythojpcfaaiefhaa.laneTurns

