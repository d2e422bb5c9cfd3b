/- NetTurns: turned as often as there are messages, a lane is as it was; copied, the first comes once more, as the last; lost, it does not come. No condition. -/
import Derived.Test.YthojpcfaaiefhaaRows
import Derived.WalkKit
import Derived.ProofKit
import Derived.OpenShut
import Derived.Test.YthojpcfaaiefhaaSxLaw
import Derived.Test.YthojpcfaaiefhaaNturns
namespace Go.Proofs.Ythojpcfaaiefhaa.netTurns
open Go Go.ChangeShapes Go.WideShapes Go.ChangeAt Go.RowKit Go.Sx
set_option linter.unusedVariables false

theorem own : ownKnob Try.prog.godebug = none := by kernel_rfl

theorem laid : laidOutB Try.prog = true := by kernel_rfl

set_option maxRecDepth 100000 in
theorem lifted (os : Os) (started : os.Started) (H : Type) (enc : TypeId × Value → H) :
    ReturnsInHanded {} Try.checked os 9 .any (Rows.netTurnsSpec.pre6 enc Try.prog Try.f9 Rows.netTurnsRow.domain false) (Rows.netTurnsSpec.post enc Try.prog Try.f9 false true false false) := by
  refine returnsInHanded_of_change (C := Try.checked) own started (by kernel_rfl) Try.func9
    (ChangeSpec.witness6 (enc := enc) (C := Try.checked) false ⟨#[], #[.slice none 0 0, .int .u8 0], []⟩ 8 (by kernel_rfl) (by kernel_rfl) (by kernel_rfl) (by kernel_rfl)) ?_
  intro W base args ds gs before hval0 hW hcnd _
  have hval : ∀ (j : Nat) t v, Try.f9.params[j]? = some t → args[j]? = some v → Value.okWide Try.prog W .any base t v := hval0
  have hW' := hW
  obtain ⟨p, q, hA0, hV, rfl, hfz, hnd⟩ := hW
  have hA : DataW.TrodAll enc Try.prog W 0 (fun _ => true) true Try.f9.params.toList args.toList ds p := hA0
  rw [Try.params9] at hA hval
  obtain ⟨v0, vs0, d0, ds0, p0, q0, hargs, rfl, rfl, h0, r0⟩ := trodAll_cons hA
  obtain ⟨v1, vs1, d1, ds1, p1, q1, rfl, rfl, rfl, h1, r1⟩ := trodAll_cons r0
  obtain ⟨rfl, rfl, rfl⟩ := trodAll_nil r1
  obtain rfl : args = #[v0, v1] := by cases args; simp_all
  obtain ⟨rfl, rfl⟩ := trodVars_none hV
  obtain ⟨al0, len0, cap0, rfl, hlc0, hcm0, hd0⟩ := arg_slice (n := 10) (e := 71) (l := [.int .u16]) Try.underlying67 (by kernel_rfl) (by kernel_rfl) (by decide) h0 (okWide_slice Try.underlying67 (hval 0 67 v0 rfl rfl))
  obtain ⟨a1, rfl, rfl, rfl, w1⟩ := open_int Try.underlying5 (hval 1 5 v1 rfl rfl) h1
  clear hA0 hval0
  simp only [List.append_nil] at hW'
  have hxs : ∀ m, m ≤ len0 → ∃ xs : List Int, xs.length = m ∧ Nums W al0 xs := by
    intro m hm
    rcases hd0 with h | ⟨b, off, h, hc⟩
    · exact ⟨[], by simp; omega, fun i x hi => by simp at hi⟩
    · obtain ⟨xs, hl, hq⟩ := exists_list (fun i s => 0 ≤ s ∧ s ≤ 65535 ∧ W.cell? ⟨b, off + i, none⟩ = some (.int .u16 s)) m (fun i hi => by
        obtain ⟨cs, hok, hcs⟩ := hc i (by omega)
        obtain ⟨_, cs1, rfl, ⟨s, rfl, hn⟩, hok1⟩ := hok.uncons
        have := hcs 0 _ rfl
        simp only [List.length_cons, List.length_nil, Nat.zero_add, Nat.mul_one, Nat.add_zero] at this
        simp only [Lit.wf, Bool.and_eq_true, decide_eq_true_eq] at hn
        exact ⟨s, hn.1, hn.2, this⟩)
      exact ⟨xs, hl, fun i x hi => ⟨(hq i x hi).1, (hq i x hi).2.1, b, off, h, (hq i x hi).2.2⟩⟩
  have hw : 0 ≤ a1 ∧ a1 ≤ 255 := by
    have := w1
    simp only [Lit.wf, Bool.and_eq_true, decide_eq_true_eq] at this
    exact ⟨this.1, this.2⟩
  refine (NT_law W a1 hw.1 hw.2 al0 len0 cap0 hlc0 hxs).mono fun e W' ⟨he, hg⟩ => ?_
  subst he
  exact ⟨_, rfl, law_post 4 laid hW' rfl rfl Try.underlying4 (by kernel_rfl) rfl hg⟩

theorem over : Rows.netTurnsRow.holds Try.pinned (OpenSpec.ofChange Rows.netTurnsSpec) :=
  OpenClaim.holds_of_wide 9 Try.f9 rfl rfl rfl rfl rfl rfl rfl ⟨rfl, rfl, rfl, rfl, rfl⟩ rfl rfl rfl rfl rfl (by kernel_rfl) Try.func9 (by kernel_rfl)
    (of_decide_eq_true (by kernel_rfl)) (by unfold Func.isWrapper; first | (rw [if_pos (by decide +kernel)]; kernel_rfl) | (rw [if_neg (by decide +kernel)]; exact ⟨rfl, rfl⟩))
    (fun os started H enc _ => lifted os started H enc)

/-- The statement. -/
theorem proved : Rows.NetTurnsSaid :=
  over
end Go.Proofs.Ythojpcfaaiefhaa.netTurns

