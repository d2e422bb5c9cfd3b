/- What is known of memory, as a list of things that lie apart. Of this session's own; no statement about the program. -/
import Derived.Test.YtkddomellpldjaaSxCore
import Derived.Conc.LoneSelect
import Derived.WalkKit
namespace Go.Sx
open Go

/-- A thing in memory: the blocks that it stands on, and what is known of them. -/
structure Res where
  fp : Nat → Prop
  ok : World → Prop
  loc : ∀ w w' : World, (∀ b, fp b → w'.heap[b]? = w.heap[b]?) → ok w → ok w'
  live : ∀ w : World, ok w → ∀ b, fp b → b < w.heap.size

def Apart (L : List Res) : Prop := L.Pairwise fun r s => ∀ b, r.fp b → ¬ s.fp b

structure Sat (E w : World) (L : List Res) : Prop where
  os : w.os = E.os
  tape : w.tape = E.tape
  output : w.output = E.output
  apart : Apart L
  all : ∀ r ∈ L, r.ok w

theorem getElem_lt {α : Type} {a : Array α} {i : Nat} {x : α} (h : a[i]? = some x) : i < a.size := (Array.getElem?_eq_some_iff.1 h).1

/-- A block, known whole. -/
def blk (b : Nat) (o : Obj) : Res where
  fp := (· = b)
  ok w := w.heap[b]? = some o
  loc w w' h k := by rw [h b rfl]; exact k
  live w k c hc := by subst hc; exact getElem_lt k

abbrev cel (b : Nat) (e : TypeId) (vs : List Value) : Res := blk b (.cells vs.toArray e (0, 0))

/-- A channel: its room, what is in it. -/
def chn (b cap : Nat) (xs : List Value) : Res where
  fp := (· = b)
  ok w := ∃ s r, w.heap[b]? = some (.chan cap xs.toArray false s r false)
  loc w w' h k := by obtain ⟨s, r, k⟩ := k; exact ⟨s, r, by rw [h b rfl]; exact k⟩
  live w k c hc := by obtain ⟨s, r, k⟩ := k; subst hc; exact getElem_lt k

/-- All that was there. -/
def old (W : World) : Res where
  fp b := b < W.heap.size
  ok w := W.heap.size ≤ w.heap.size ∧ ∀ b, b < W.heap.size → w.heap[b]? = W.heap[b]?
  loc w w' h k := by
    refine ⟨?_, fun b hb => (h b hb).trans (k.2 b hb)⟩
    rcases Nat.lt_or_ge w'.heap.size W.heap.size with hlt | hge
    · have h1 := h w'.heap.size hlt
      rw [Array.getElem?_eq_none (Nat.le_refl _)] at h1
      have := k.1
      have h2 : w.heap.size ≤ w'.heap.size := by simpa using h1.symm
      omega
    · exact hge
  live w k b hb := Nat.lt_of_lt_of_le hb k.1

/-- A slice value of the call's own, nil or from a row's head on: what it holds. -/
def own (v : Value) (n : Nat) (e : TypeId) (size : Nat) (xs : List Value) : Res where
  fp b := v.ownBlock = some b
  ok w := w.ownsRow 0 e size v n xs
  loc w w' h k := by
    refine ⟨k.1, ?_⟩
    rcases k.2 with hn | ⟨g, cap, cur, rfl, hb, hg, r⟩
    · exact .inl hn
    · exact .inr ⟨g, cap, cur, rfl, hb, by rw [h g rfl]; exact hg, r⟩
  live w k b hb := (World.ownsRow.lt k b hb).2

/-- The same, of elements of one cell: the value is '.slice a xs.length cap'. -/
def row (a : Option Addr) (cap : Nat) (e : TypeId) (xs : List Value) : Res := own (.slice a xs.length cap) xs.length e 1 xs

/-- A slice '.slice a xs.length cap' of one-cell elements, wherever it begins, that is read. -/
def seg (a : Option Addr) (cap : Nat) (e : TypeId) (xs : List Value) : Res where
  fp b := (Value.slice a xs.length cap).ownBlock = some b
  ok w := (a = none ∧ cap = 0 ∧ xs = []) ∨ ∃ g o cur, a = some ⟨g, o, none⟩ ∧ xs.length ≤ cap ∧ w.heap[g]? = some (.cells cur e (0, 0)) ∧ ∀ j u, xs[j]? = some u → cur[o + j]? = some u
  loc w w' h k := by
    rcases k with k | ⟨g, o, cur, rfl, hc, hg, r⟩
    · exact .inl k
    · exact .inr ⟨g, o, cur, rfl, hc, by rw [h g rfl]; exact hg, r⟩
  live w k b hb := by
    rcases k with ⟨rfl, _, _⟩ | ⟨g, o, cur, rfl, hc, hg, r⟩
    · simp [Value.ownBlock] at hb
    · simp [Value.ownBlock] at hb; subst hb; exact getElem_lt hg

/-- Nothing of memory, but a fact. -/
def fact (p : Prop) : Res where
  fp _ := False
  ok _ := p
  loc _ _ _ k := k
  live _ _ _ h := h.elim

/-! ### taking, leaving, turning -/

theorem Sat.sub {E w : World} {L L' : List Res} (h : Sat E w L) (hs : L'.Sublist L) : Sat E w L' :=
  ⟨h.os, h.tape, h.output, h.apart.sublist hs, fun r hr => h.all r (hs.subset hr)⟩

theorem apart_symm {r s : Res} (h : ∀ b, r.fp b → ¬ s.fp b) : ∀ b, s.fp b → ¬ r.fp b := fun b hs hr => h b hr hs

theorem Sat.perm {E w : World} {L L' : List Res} (h : Sat E w L) (hp : L.Perm L') : Sat E w L' :=
  ⟨h.os, h.tape, h.output, h.apart.perm hp (fun h => apart_symm h), fun r hr => h.all r (hp.mem_iff.2 hr)⟩

/-- The places idx of a list. -/
def pickAll (idx : List Nat) (L : List Res) : List Res := idx.filterMap (L[·]?)

theorem apart_get {L : List Res} (h : Apart L) {i j : Nat} {r s : Res} (hi : L[i]? = some r) (hj : L[j]? = some s) (hij : i ≠ j) : ∀ b, r.fp b → ¬ s.fp b := by
  obtain ⟨hi1, rfl⟩ := List.getElem?_eq_some_iff.1 hi
  obtain ⟨hj1, rfl⟩ := List.getElem?_eq_some_iff.1 hj
  rcases Nat.lt_or_gt_of_ne hij with hlt | hgt
  · exact List.pairwise_iff_getElem.1 h i j hi1 hj1 hlt
  · exact apart_symm (List.pairwise_iff_getElem.1 h j i hj1 hi1 hgt)

theorem Sat.sel {E w : World} {L : List Res} (h : Sat E w L) (idx : List Nat) (hn : idx.Nodup) : Sat E w (pickAll idx L) := by
  refine ⟨h.os, h.tape, h.output, ?_, ?_⟩
  · unfold pickAll
    induction idx with
    | nil => exact List.Pairwise.nil
    | cons i idx ih =>
      obtain ⟨hi, hn⟩ := List.nodup_cons.1 hn
      rw [List.filterMap_cons]
      split
      · exact ih hn
      · rename_i r hr
        refine List.Pairwise.cons ?_ (ih hn)
        intro s hs
        obtain ⟨j, hj, hjs⟩ := List.mem_filterMap.1 hs
        exact apart_get h.apart hr hjs (fun e => hi (e ▸ hj))
  · intro r hr
    obtain ⟨i, _, hi⟩ := List.mem_filterMap.1 hr
    exact h.all r (List.mem_of_getElem? hi)

/-- The places idx, all below n, and all from n on. -/
theorem Sat.selDrop {E w : World} {L : List Res} (h : Sat E w L) (n : Nat) (idx : List Nat) (hn : idx.Nodup) (hlt : ∀ i ∈ idx, i < n) : Sat E w (pickAll idx L ++ L.drop n) := by
  have h1 := h.sel idx hn
  have h2 := h.sub (List.drop_sublist n L)
  refine ⟨h.os, h.tape, h.output, List.pairwise_append.2 ⟨h1.apart, h2.apart, ?_⟩, ?_⟩
  · intro r hr s hs
    obtain ⟨i, hi, hir⟩ := List.mem_filterMap.1 hr
    obtain ⟨j, hj⟩ := List.mem_iff_getElem?.1 hs
    rw [List.getElem?_drop] at hj
    exact apart_get h.apart hir hj (by have := hlt i hi; omega)
  · intro r hr
    rcases List.mem_append.1 hr with hr | hr
    · exact h1.all r hr
    · exact h2.all r hr

/-- The same, told what comes out. -/
theorem Sat.get {E w : World} {L L' : List Res} (h : Sat E w L) (idx : List Nat) (hn : idx.Nodup) (e : pickAll idx L = L') : Sat E w L' := e ▸ h.sel idx hn

theorem Sat.ok {E w : World} {L : List Res} (h : Sat E w L) (i : Nat) {r : Res} (hi : L[i]? = some r) : r.ok w := h.all r (List.mem_of_getElem? hi)

theorem Sat.nil (w : World) : Sat w w [] := ⟨rfl, rfl, rfl, List.Pairwise.nil, fun _ h => by cases h⟩
theorem Sat.start (w : World) : Sat w w [old w] :=
  ⟨rfl, rfl, rfl, by simp [Apart], fun r h => by rw [List.mem_singleton.1 h]; exact ⟨Nat.le_refl _, fun _ _ => rfl⟩⟩

theorem Sat.fact {E w : World} {L : List Res} (h : Sat E w L) {p : Prop} (hp : p) : Sat E w (fact p :: L) :=
  ⟨h.os, h.tape, h.output, List.Pairwise.cons (fun _ _ _ k => k.elim) h.apart, fun r hr => by
    rcases List.mem_cons.1 hr with rfl | hr
    · exact hp
    · exact h.all r hr⟩

/-- Whatever turns only what the first ones stand on, or is new: the first ones are given anew, the others stay. -/
theorem Sat.update {E w w' : World} {A A' L : List Res} (h : Sat E w (A ++ L)) (ho : w'.os = w.os) (ht : w'.tape = w.tape) (hp : w'.output = w.output)
    (keep : ∀ b, b < w.heap.size → (∀ r ∈ A, ¬ r.fp b) → w'.heap[b]? = w.heap[b]?)
    (new : ∀ r ∈ A', r.ok w') (hA : Apart A') (fresh : ∀ r ∈ A', ∀ b, r.fp b → w.heap.size ≤ b ∨ ∃ s ∈ A, s.fp b) : Sat E w' (A' ++ L) := by
  obtain ⟨hAA, hL, hAL⟩ := List.pairwise_append.1 h.apart
  have stay : ∀ r ∈ L, r.ok w' := by
    intro r hr
    have hrw := h.all r (List.mem_append_right _ hr)
    refine r.loc w w' (fun b hb => keep b (r.live w hrw b hb) ?_) hrw
    intro s hs hsb
    exact hAL s hs r hr b hsb hb
  refine ⟨ho.trans h.os, ht.trans h.tape, hp.trans h.output, ?_, ?_⟩
  · refine List.pairwise_append.2 ⟨hA, hL, ?_⟩
    intro r hr s hs b hrb hsb
    rcases fresh r hr b hrb with hge | ⟨q, hq, hqb⟩
    · have := s.live w (h.all s (List.mem_append_right _ hs)) b hsb
      omega
    · exact hAL q hq s hs b hqb hsb
  · intro r hr
    rcases List.mem_append.1 hr with hr | hr
    · exact new r hr
    · exact stay r hr

theorem heap_old (w : World) (o : Obj) (b : Nat) (h : b < w.heap.size) : (w.alloc o).heap[b]? = w.heap[b]? := heap_alloc_old w o h

/-- A new block. -/
theorem Sat.alloc {E w : World} {L : List Res} (h : Sat E w L) (o : Obj) : Sat E (w.alloc o) (blk w.heap.size o :: L) := by
  refine Sat.update (A := []) (A' := [blk w.heap.size o]) h rfl rfl rfl (fun b hb _ => heap_old w o b hb) ?_ (by simp [Apart]) ?_
  · intro r hr; rw [List.mem_singleton.1 hr]; exact heap_alloc_new w o
  · intro r hr b hb; rw [List.mem_singleton.1 hr] at hb; exact .inl (Nat.le_of_eq hb.symm)

theorem Sat.drew {E w : World} {L : List Res} (h : Sat E w L) : Sat E w.drew L :=
  ⟨h.os, h.tape, h.output, h.apart, fun r hr => r.loc w w.drew (fun _ _ => rfl) (h.all r hr)⟩

/-- A block turned. -/
theorem Sat.turn {E w w' : World} {L : List Res} {r r' : Res} {b : Nat} (h : Sat E w (r :: L)) (hr : ∀ c, r.fp c ↔ c = b) (hr' : ∀ c, r'.fp c ↔ c = b)
    (ho : w'.os = w.os) (ht : w'.tape = w.tape) (hp : w'.output = w.output) (keep : ∀ c, c ≠ b → w'.heap[c]? = w.heap[c]?) (new : r'.ok w') : Sat E w' (r' :: L) := by
  refine Sat.update (A := [r]) (A' := [r']) h ho ht hp ?_ ?_ (by simp [Apart]) ?_
  · intro c _ hc; exact keep c (fun e => hc r (List.mem_singleton.2 rfl) ((hr c).2 e))
  · intro s hs; rw [List.mem_singleton.1 hs]; exact new
  · intro s hs c hc; rw [List.mem_singleton.1 hs] at hc; exact .inr ⟨r, List.mem_singleton.2 rfl, (hr c).2 ((hr' c).1 hc)⟩

theorem Sat.setCell {E w : World} {L : List Res} {b e : Nat} {vs : List Value} (h : Sat E w (cel b e vs :: L)) (off : Nat) (v : Value) :
    Sat E (w.setCell ⟨b, off, none⟩ v) (cel b e (vs.set off v) :: L) := by
  refine Sat.turn (b := b) h (fun _ => Iff.rfl) (fun _ => Iff.rfl) rfl rfl rfl ?_ ?_
  · intro c hc; exact RowKit.Below.heap_setCell w _ _ c hc
  · have hb : w.heap[b]? = some (.cells vs.toArray e (0, 0)) := h.all _ (List.mem_cons_self ..)
    show (w.setCell ⟨b, off, none⟩ v).heap[b]? = _
    simp [World.setCell, Array.getElem?_modify, hb]

theorem Sat.below {w w' : World} {L : List Res} (h : Sat w w' (old w :: L)) : RowKit.Below w.heap.size w w' := by
  have := h.all _ (List.mem_cons_self ..)
  exact ⟨h.os, h.tape, h.output, this.1, this.2⟩

/-- A thing that stands on no block, put in at place i. -/
theorem Sat.insertAt {E w : World} {L : List Res} (h : Sat E w L) (i : Nat) (r : Res) (hr : r.ok w) (hf : ∀ b, ¬ r.fp b) : Sat E w (L.take i ++ r :: L.drop i) := by
  have h1 : Sat E w (r :: L) := ⟨h.os, h.tape, h.output, List.Pairwise.cons (fun _ _ b hb => absurd hb (hf b)) h.apart, fun s hs => by
    rcases List.mem_cons.1 hs with rfl | hs
    · exact hr
    · exact h.all s hs⟩
  have p : (L.take i ++ r :: L.drop i).Perm (r :: L) := by
    have := List.perm_middle (a := r) (l₁ := L.take i) (l₂ := L.drop i)
    rwa [List.take_append_drop] at this
  exact h1.perm p.symm

/-- The nil slice is a slice of the call's own. -/
theorem Sat.ownNil {E w : World} {L : List Res} {e size : Nat} (h : Sat E w L) (i : Nat) : Sat E w (L.take i ++ own (.slice none 0 0) 0 e size [] :: L.drop i) :=
  h.insertAt i _ (World.ownsRow_nil w 0 e size) (fun b hb => by simp [own, Value.ownBlock] at hb)

theorem Sat.rowNil {E w : World} {L : List Res} {e : Nat} (h : Sat E w L) (i : Nat) : Sat E w (L.take i ++ row none 0 e [] :: L.drop i) := h.ownNil i

/-! ### contracts -/

def Trip (P : Program) (g : FuncId) (args : List Value) (pre : List Res) (post : Value → List Res → Prop) : Prop :=
  ∀ E w L, Sat E w (pre ++ L) → Calls P g args.toArray w fun e w' => ∃ v pre', e = .returned v ∧ post v pre' ∧ Sat E w' (pre' ++ L)

/-- What a body must come to for a contract. -/
def Fins (E : World) (L : List Res) (post : Value → List Res → Prop) : Ending → World → Prop :=
  fun e w' => ∃ v pre', e = .returned v ∧ post v pre' ∧ Sat E w' (pre' ++ L)

theorem Trip.of {P : Program} {f : FuncId} {fn : Func} {args : List Value} {pre : List Res} {post : Value → List Res → Prop}
    (hf : P.funcs[f]? = some fn) (hb : fn.body.isSome = true) (h : ∀ E w L, Sat E w (pre ++ L) → To P f (ent fn args) w (Fins E L post)) : Trip P f args pre post :=
  fun E w L hs => start hf hb (h E w L hs)

theorem Trip.mono {P : Program} {f : FuncId} {args : List Value} {pre : List Res} {post post' : Value → List Res → Prop} (h : Trip P f args pre post) (hp : ∀ v l, post v l → post' v l) : Trip P f args pre post' :=
  fun E w L hs => (h E w L hs).mono fun _ _ ⟨v, l, e, k, s⟩ => ⟨v, l, e, hp v l k, s⟩

end Go.Sx
