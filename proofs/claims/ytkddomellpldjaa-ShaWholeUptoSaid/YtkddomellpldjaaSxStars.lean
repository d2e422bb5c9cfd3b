/- Many things as one; a row of alike things, of which one is taken out and put back. Of this session's own; no statement about the program. -/
import Derived.Test.YtkddomellpldjaaSxLaw
namespace Go.Sx
open Go

/-- Many things as one. -/
def stars (l : List Res) : Res where
  fp b := ∃ r ∈ l, r.fp b
  ok w := Apart l ∧ ∀ r ∈ l, r.ok w
  loc w w' h k := ⟨k.1, fun r hr => r.loc w w' (fun b hb => h b ⟨r, hr, hb⟩) (k.2 r hr)⟩
  live w k b hb := by
    obtain ⟨r, hr, hb⟩ := hb
    exact r.live w (k.2 r hr) b hb

theorem Sat.pack {E w : World} {A L : List Res} (h : Sat E w (A ++ L)) : Sat E w (stars A :: L) := by
  obtain ⟨h1, h2, h3⟩ := List.pairwise_append.1 h.apart
  refine ⟨h.os, h.tape, h.output, List.Pairwise.cons ?_ h2, ?_⟩
  · rintro s hs b ⟨r, hr, hb⟩
    exact h3 r hr s hs b hb
  · intro r hr
    rcases List.mem_cons.1 hr with rfl | hr
    · exact ⟨h1, fun s hs => h.all s (List.mem_append_left _ hs)⟩
    · exact h.all r (List.mem_append_right _ hr)

theorem Sat.unpack {E w : World} {A L : List Res} (h : Sat E w (stars A :: L)) : Sat E w (A ++ L) := by
  obtain ⟨h1, h2⟩ := List.pairwise_cons.1 h.apart
  have hk := h.all _ (List.mem_cons_self ..)
  refine ⟨h.os, h.tape, h.output, List.pairwise_append.2 ⟨hk.1, h2, ?_⟩, ?_⟩
  · intro r hr s hs b hb
    exact h1 s hs b ⟨r, hr, hb⟩
  · intro r hr
    rcases List.mem_append.1 hr with hr | hr
    · exact hk.2 r hr
    · exact h.all r (List.mem_cons_of_mem _ hr)

/-- Alike things, so many. -/
def many (n : Nat) (g : Nat → Res) : Res := stars ((List.range n).map g)
/-- All of them but one. -/
def hole (n : Nat) (g : Nat → Res) (i : Nat) : Res := stars (((List.range n).erase i).map g)

theorem range_perm (n i : Nat) (hi : i < n) : (List.range n).Perm (i :: (List.range n).erase i) := List.perm_cons_erase (List.mem_range.2 hi)

theorem Sat.takeOut {E w : World} {L : List Res} {n : Nat} {g : Nat → Res} (i : Nat) (hi : i < n) (h : Sat E w (many n g :: L)) : Sat E w (g i :: hole n g i :: L) := by
  have h1 := h.unpack
  have hp : ((List.range n).map g ++ L).Perm (((List.range n).erase i).map g ++ (g i :: L)) := by
    have := ((range_perm n i hi).map g).append_right L
    refine this.trans ?_
    simp only [List.map_cons, List.cons_append]
    exact List.perm_middle.symm
  exact (Sat.pack (h1.perm hp)).perm (List.Perm.swap _ _ _)

theorem Sat.putIn {E w : World} {L : List Res} {n : Nat} {g g' : Nat → Res} (i : Nat) (hi : i < n) (hg : ∀ j, j ≠ i → g' j = g j) (h : Sat E w (g' i :: hole n g i :: L)) : Sat E w (many n g' :: L) := by
  have h1 := (h.perm (List.Perm.swap _ _ _)).unpack
  refine Sat.pack (h1.perm ?_)
  have e : ((List.range n).erase i).map g = ((List.range n).erase i).map g' := by
    refine List.map_congr_left fun j hj => ?_
    have hne : j ≠ i := (List.nodup_range.mem_erase_iff.1 hj).1
    exact (hg j hne).symm
  rw [e]
  have := ((range_perm n i hi).map g').append_right L
  refine List.Perm.trans ?_ this.symm
  simp only [List.map_cons, List.cons_append]
  exact List.perm_middle

/-- A lane: its block, its channel. -/
def laneR (e R : Nat) (b c : Nat) (xs : List Value) : Res := stars [cel b e [.chan (some c)], chn c R xs]
def lanes (n e R : Nat) (B C : Nat → Nat) (X : Nat → List Value) : Res := many n fun i => laneR e R (B i) (C i) (X i)
def laneHole (n e R : Nat) (B C : Nat → Nat) (X : Nat → List Value) (i : Nat) : Res := hole n (fun i => laneR e R (B i) (C i) (X i)) i
def putAt {α : Type} (X : Nat → α) (i : Nat) (x : α) : Nat → α := fun j => if j = i then x else X j

@[simp] theorem putAt_same {α : Type} (X : Nat → α) (i : Nat) (x : α) : putAt X i x i = x := by simp [putAt]
@[simp] theorem putAt_putAt {α : Type} (X : Nat → α) (i : Nat) (x y : α) : putAt (putAt X i x) i y = putAt X i y := by
  funext j
  unfold putAt
  split <;> rfl
theorem putAt_ne {α : Type} (X : Nat → α) (i j : Nat) (x : α) (h : j ≠ i) : putAt X i x j = X j := by simp [putAt, h]

theorem Sat.turn3 {E w : World} {L : List Res} {a b c d : Res} (h : Sat E w (a :: b :: c :: d :: L)) : Sat E w (c :: a :: b :: d :: L) :=
  h.perm (List.perm_middle (l₁ := [a, b]))

theorem Sat.turn5 {E w : World} {L : List Res} {a b c d e : Res} (h : Sat E w (a :: b :: c :: d :: e :: L)) : Sat E w (d :: a :: b :: e :: L) := by
  have h1 := h.sub (L' := a :: b :: d :: e :: L) (((List.Sublist.refl _).cons _).cons_cons _ |>.cons_cons _)
  exact h1.perm (List.perm_middle (l₁ := [a, b]))

theorem Sat.laneOut {E w : World} {L : List Res} {n e R : Nat} {B C : Nat → Nat} {X : Nat → List Value} {r : Res} (i : Nat) (hi : i < n) (h : Sat E w (r :: lanes n e R B C X :: L)) :
    Sat E w (r :: cel (B i) e [.chan (some (C i))] :: chn (C i) R (X i) :: laneHole n e R B C X i :: L) := by
  have h1 := Sat.takeOut i hi (h.perm (List.Perm.swap _ _ _))
  have h2 := Sat.unpack h1
  simp only [List.cons_append, List.nil_append] at h2
  refine h2.perm ?_
  have p : (cel (B i) e [.chan (some (C i))] :: chn (C i) R (X i) :: laneHole n e R B C X i :: r :: L).Perm (r :: cel (B i) e [.chan (some (C i))] :: chn (C i) R (X i) :: laneHole n e R B C X i :: L) := by
    exact List.perm_middle (l₁ := [cel (B i) e [.chan (some (C i))], chn (C i) R (X i), laneHole n e R B C X i])
  exact p

theorem Sat.laneIn {E w : World} {L : List Res} {n e R : Nat} {B C : Nat → Nat} {X : Nat → List Value} {r : Res} {ys : List Value} (i : Nat) (hi : i < n)
    (h : Sat E w (r :: cel (B i) e [.chan (some (C i))] :: chn (C i) R ys :: laneHole n e R B C X i :: L)) : Sat E w (r :: lanes n e R B C (putAt X i ys) :: L) := by
  have p : (r :: cel (B i) e [.chan (some (C i))] :: chn (C i) R ys :: laneHole n e R B C X i :: L).Perm ([cel (B i) e [.chan (some (C i))], chn (C i) R ys] ++ (laneHole n e R B C X i :: r :: L)) :=
    (List.perm_middle (l₁ := [cel (B i) e [.chan (some (C i))], chn (C i) R ys, laneHole n e R B C X i])).symm
  have h1 := Sat.pack (h.perm p)
  have h2 : Sat E w (lanes n e R B C (putAt X i ys) :: r :: L) := by
    refine Sat.putIn (g := fun i => laneR e R (B i) (C i) (X i)) i hi (fun j hj => ?_) ?_
    · simp [putAt, hj]
    · have e1 : putAt X i ys i = ys := by simp [putAt]
      show Sat E w (laneR e R (B i) (C i) (putAt X i ys i) :: _)
      rw [e1]
      exact h1
  exact h2.perm (List.Perm.swap _ _ _)

theorem Sat.laneSame {E w : World} {L : List Res} {n e R : Nat} {B C : Nat → Nat} {X : Nat → List Value} {r : Res} (i : Nat) (hi : i < n)
    (h : Sat E w (r :: cel (B i) e [.chan (some (C i))] :: chn (C i) R (X i) :: laneHole n e R B C X i :: L)) : Sat E w (r :: lanes n e R B C X :: L) := by
  have := Sat.laneIn i hi h
  have e1 : putAt X i (X i) = X := by funext j; unfold putAt; split <;> simp_all
  rwa [e1] at this

theorem Sat.laneBack {E w : World} {L : List Res} {n e R : Nat} {B C : Nat → Nat} {X : Nat → List Value} {r : Res} {ys : List Value} (i : Nat) (hi : i < n) (hx : X i = ys)
    (h : Sat E w (r :: cel (B i) e [.chan (some (C i))] :: chn (C i) R ys :: laneHole n e R B C X i :: L)) : Sat E w (r :: lanes n e R B C X :: L) := by
  subst hx
  exact Sat.laneSame i hi h

theorem Sat.laneNone {E w : World} {L : List Res} {e R : Nat} {B C : Nat → Nat} {X : Nat → List Value} {r : Res} (h : Sat E w (r :: L)) : Sat E w (r :: lanes 0 e R B C X :: L) := by
  have h1 : Sat E w (lanes 0 e R B C X :: r :: L) := Sat.pack (A := []) h
  exact h1.perm (List.Perm.swap _ _ _)

theorem range_map_congr {n : Nat} {g g' : Nat → Res} (h : ∀ i, i < n → g i = g' i) : (List.range n).map g = (List.range n).map g' :=
  List.map_congr_left fun i hi => h i (List.mem_range.1 hi)

/-- One lane more. -/
theorem Sat.laneGrow {E w : World} {L : List Res} {n e R b c : Nat} {B C : Nat → Nat} {r : Res} (h : Sat E w (r :: cel b e [.chan (some c)] :: chn c R [] :: lanes n e R B C (fun _ => []) :: L)) :
    Sat E w (r :: lanes (n + 1) e R (putAt B n b) (putAt C n c) (fun _ => []) :: L) := by
  have p : (r :: cel b e [.chan (some c)] :: chn c R [] :: lanes n e R B C (fun _ => []) :: L).Perm ([cel b e [.chan (some c)], chn c R []] ++ (lanes n e R B C (fun _ => []) :: r :: L)) :=
    (List.perm_middle (l₁ := [cel b e [.chan (some c)], chn c R [], lanes n e R B C (fun _ => [])])).symm
  have h1 := Sat.pack (h.perm p)
  have h2 := Sat.unpack (h1.perm (List.Perm.swap _ _ _))
  have e1 : (List.range n).map (fun i => laneR e R (B i) (C i) []) = (List.range n).map (fun i => laneR e R (putAt B n b i) (putAt C n c i) []) :=
    range_map_congr fun i hi => by rw [putAt_ne B n i b (by omega), putAt_ne C n i c (by omega)]
  rw [e1] at h2
  have h3 : Sat E w (((List.range (n + 1)).map fun i => laneR e R (putAt B n b i) (putAt C n c i) []) ++ (r :: L)) := by
    rw [List.range_succ, List.map_append, List.append_assoc]
    simp only [List.map_cons, List.map_nil, putAt_same, List.cons_append, List.nil_append]
    exact h2
  exact (Sat.pack h3).perm (List.Perm.swap _ _ _)
end Go.Sx
