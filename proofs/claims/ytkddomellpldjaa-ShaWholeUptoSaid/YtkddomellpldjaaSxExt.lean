/- More operations, and small laws of contracts. Of this session's own; no statement about the program. -/
import Derived.Test.YtkddomellpldjaaSxStars
namespace Go.Sx
open Go

/-- These values lie one behind another. -/
def CellsAt (w : World) (b : Nat) : Nat → List Value → Prop
  | _, [] => True
  | o, v :: vs => w.cell? ⟨b, o, none⟩ = some v ∧ CellsAt w b (o + 1) vs

theorem CellsAt.get {w : World} {b : Nat} : ∀ {vs : List Value} {o : Nat}, CellsAt w b o vs → ∀ j u, vs[j]? = some u → w.cell? ⟨b, o + j, none⟩ = some u
  | [], _, _, _, _, h => by simp at h
  | v :: vs, o, ⟨h1, h2⟩, 0, u, h => by simp at h; subst h; exact h1
  | v :: vs, o, ⟨h1, h2⟩, j + 1, u, h => by
    have := CellsAt.get h2 j u (by simpa using h)
    rwa [show o + 1 + j = o + (j + 1) by omega] at this

def aggSize (P : Program) (t : TypeId) : Option Nat :=
  match P.underlying t with
  | some (.struct _) => (P.info? t).map (·.size)
  | some (.array _ _) => (P.info? t).map (·.size)
  | _ => none

section
variable {P : Program} {c : Cfg} {w : World} {K : Value → World → Prop}

theorem run_loadAt_agg {t b off : Nat} {vs : List Value} (hc : CellsAt w b off vs) (ha : aggSize P t = some vs.length) :
    (Instr.loadAt t (.pointer (some ⟨b, off, none⟩))).run P w = .ok (.agg vs.toArray) w := by
  have hl := run_loadCells_list (P := P) (w := w) ⟨b, off, none⟩ vs (by
    intro j u hj
    rw [add_eq]
    exact hc.get j u hj)
  unfold aggSize at ha
  unfold Instr.loadAt Instr.sureAddr loadVar
  simp only [Sem.run_bind, Sem.run_pure, Result.andThen_ok]
  cases hu : P.underlying t with
  | none => simp [hu] at ha
  | some d =>
    rw [run_isAgg hu]
    rw [hu] at ha
    cases d with
    | struct fs =>
      dsimp only at ha ⊢
      obtain ⟨i, hi, hn⟩ := Option.map_eq_some_iff.1 ha
      have e1 : (sizeOf t).run P w = .ok vs.length w := by simp [sizeOf, typeInfo, hi, hn]
      simp only [if_true, Sem.run_bind, Result.andThen_ok, e1, hl, Sem.run_pure]
    | array n el =>
      dsimp only at ha ⊢
      obtain ⟨i, hi, hn⟩ := Option.map_eq_some_iff.1 ha
      have e1 : (sizeOf t).run P w = .ok vs.length w := by simp [sizeOf, typeInfo, hi, hn]
      simp only [if_true, Sem.run_bind, Result.andThen_ok, e1, hl, Sem.run_pure]
    | _ => cases ha

/-- A load of many cells, each known by itself. -/
theorem One.loadAgg {t b off : Nat} (vs : List Value) (hc : CellsAt w b off vs) (hv : c.view = some (.load t (.pointer (some ⟨b, off, none⟩)))) (ha : aggSize P t = some vs.length) (h : K (.agg vs.toArray) w) : One P c w K :=
  One.load' hv (run_loadAt_agg hc ha) h
end
end Go.Sx
