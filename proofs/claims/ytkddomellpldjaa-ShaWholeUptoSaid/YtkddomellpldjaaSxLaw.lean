/- Arguments that are read: what their cells hold; and the end of a law. Of this session's own; no statement about the program. -/
import Derived.Test.YtkddomellpldjaaSxReg
import Derived.ProofKit
import Derived.OpenShut
import Derived.Deep.Slices
import Derived.Carry
namespace Go.Sx
open Go Go.RowKit Go.ChangeShapes Go.WideShapes

/-- A cell's kind. -/
inductive Sc where
  | bool
  | int (k : IntKind)
  | string
  deriving DecidableEq

def Sc.ok : Sc → Value → Prop
  | .bool, v => ∃ b, v = .bool b
  | .int k, v => ∃ n, v = .int k n ∧ (Lit.int k n).wf = true
  | .string, v => ∃ s, v = .string s ∧ s.size ≤ maxLen

/-- The fields of a struct, one behind the other. -/
def flatFields (P : Program) (F : TypeId → Option (List Sc)) : List Field → List Sc → Option (List Sc)
  | [], acc => some acc
  | f :: fs, acc => if f.offset = acc.length then match F f.type with
      | some l => if l.length = P.cellsOf f.type then flatFields P F fs (acc ++ l) else none
      | none => none
    else none

/-- The cells of a type that holds numbers, bools and texts alone, in order. -/
def flat (P : Program) : Nat → TypeId → Option (List Sc)
  | 0, _ => none
  | n + 1, t => match P.underlying t with
    | some .bool => some [.bool]
    | some (.int k) => some [.int k]
    | some .string => some [.string]
    | some (.struct fs) =>
      match flatFields P (flat P n) fs.toList [] with
      | some l => if l.length = P.cellsOf t then some l else none
      | none => none
    | some (.array m e) => match flat P n e with
      | some l => if l.length = P.cellsOf e then if m * l.length = P.cellsOf t then some (List.replicate m l).flatten else none else none
      | none => none
    | _ => none

def OkCells : List Sc → List Value → Prop
  | [], [] => True
  | s :: ss, v :: vs => s.ok v ∧ OkCells ss vs
  | _, _ => False

theorem OkCells.append : ∀ {a b : List Sc} {x y : List Value}, OkCells a x → OkCells b y → OkCells (a ++ b) (x ++ y)
  | [], _, [], _, _, h => h
  | _ :: _, _, _ :: _, _, h, k => ⟨h.1, OkCells.append h.2 k⟩
  | [], _, _ :: _, _, h, _ => h.elim
  | _ :: _, _, [], _, h, _ => h.elim

theorem OkCells.uncons {s : Sc} {ss : List Sc} : ∀ {cs : List Value}, OkCells (s :: ss) cs → ∃ v vs, cs = v :: vs ∧ s.ok v ∧ OkCells ss vs
  | v :: vs, h => ⟨v, vs, rfl, h.1, h.2⟩
  | [], h => h.elim
theorem OkCells.unnil : ∀ {cs : List Value}, OkCells [] cs → cs = []
  | [], _ => rfl
  | _ :: _, h => h.elim

theorem OkCells.length : ∀ {a : List Sc} {x : List Value}, OkCells a x → x.length = a.length
  | [], [], _ => rfl
  | _ :: _, _ :: _, h => by simp [OkCells.length h.2]
  | [], _ :: _, h => h.elim
  | _ :: _, [], h => h.elim

section
variable {H : Type} {enc : TypeId × Value → H} {P : Program} {w : World} {base : Nat} {spare : Nat → Bool} {held : Bool}

theorem flatFields_ok {F : TypeId → Option (List Sc)} {cs : List Value} : ∀ (fs : List Field) (acc l : List Sc),
    (∀ f ∈ fs, ∀ l', F f.type = some l' → OkCells l' ((cs.drop f.offset).take (P.cellsOf f.type))) →
    OkCells acc (cs.take acc.length) → flatFields P F fs acc = some l → OkCells l (cs.take l.length)
  | [], acc, l, _, h, he => by simp [flatFields] at he; subst he; exact h
  | f :: fs, acc, l, hf, h, he => by
    unfold flatFields at he
    split at he
    · rename_i hoff
      split at he
      · rename_i l' hl'
        split at he
        · rename_i hlen
          refine flatFields_ok fs (acc ++ l') l (fun g hg => hf g (List.mem_cons_of_mem _ hg)) ?_ he
          have h2 := hf f (List.mem_cons_self ..) l' hl'
          rw [hoff] at h2
          have h3 := h.append h2
          rw [← hlen] at h3
          rwa [← List.take_add, ← List.length_append] at h3
        · cases he
      · cases he
    · cases he

theorem flatArr_ok {cs : List Value} {l : List Sc} (s : Nat) (hs : l.length = s) : ∀ (m : Nat), (∀ i, i < m → OkCells l ((cs.drop (i * s)).take s)) → OkCells (List.replicate m l).flatten (cs.take (m * s))
  | 0, _ => by simp [OkCells]
  | m + 1, h => by
    have h1 := flatArr_ok s hs m (fun i hi => h i (by omega))
    have h2 := h m (by omega)
    have h3 := h1.append h2
    rw [← List.take_add] at h3
    rw [List.replicate_succ', List.flatten_append, Nat.succ_mul]
    simpa using h3

theorem mapM_some {α β : Type} {f : α → Option β} : ∀ {l : List α} {r : List β}, l.mapM f = some r → ∀ (i : Nat) (x : α), l[i]? = some x → ∃ y : β, r[i]? = some y ∧ f x = some y
  | [], r, h, i, x, hx => by simp at hx
  | a :: l, r, h, i, x, hx => by
    rw [List.mapM_cons] at h
    simp only [Option.bind_eq_bind, Option.bind_eq_some_iff] at h
    obtain ⟨y, hy, ys, hys, hr⟩ := h
    cases hr
    cases i with
    | zero => simp at hx; subst hx; exact ⟨y, by simp, hy⟩
    | succ i =>
      simp at hx
      obtain ⟨z, hz, hf⟩ := mapM_some hys i x hx
      exact ⟨z, by simpa using hz, hf⟩

theorem trod_flat : ∀ (n fuel : Nat) (t : TypeId) (cs : List Value) (x : DataW H × List MemPlace) (l : List Sc), flat P n t = some l → DataW.trod enc P w base spare held fuel t cs = some x → OkCells l cs := by
  intro n
  induction n with
  | zero => intro fuel t cs x l h; simp [flat] at h
  | succ n ih =>
    intro fuel t cs x l hfl htr
    unfold flat at hfl
    split at hfl
    · rename_i hu; cases hfl
      obtain ⟨b, rfl, _⟩ := DataW.trod_bool hu htr
      exact ⟨⟨_, rfl⟩, trivial⟩
    · rename_i k hu; cases hfl
      obtain ⟨b, rfl, _, hw⟩ := DataW.trod_int hu htr
      exact ⟨⟨_, rfl, hw⟩, trivial⟩
    · rename_i hu; cases hfl
      obtain ⟨b, rfl, _, hw⟩ := DataW.trod_string hu htr
      exact ⟨⟨_, rfl, hw⟩, trivial⟩
    · rename_i fs hu
      split at hfl
      · rename_i l' hl'
        split at hfl
        · rename_i hlen
          cases hfl
          obtain ⟨xs, m, _, _, hcl, hxs, hf⟩ := DataW.trod_struct hu htr
          have h1 := flatFields_ok (cs := cs) fs.toList [] l (by
            intro f hfm l2 hl2
            obtain ⟨i, hi⟩ := List.mem_iff_getElem?.1 hfm
            have hi' : fs[i]? = some f := by simpa using hi
            have h2 := hf i f hi'
            have hlt : i < xs.length := by
              rw [hxs]
              exact (Array.getElem?_eq_some_iff.1 hi').1
            rw [List.getElem?_eq_getElem hlt] at h2
            exact ih m f.type _ _ l2 hl2 h2) (by simp [OkCells]) hl'
          rwa [hlen, ← hcl, List.take_length] at h1
        · cases hfl
      · cases hfl
    · rename_i m e hu
      split at hfl
      · rename_i l' hl'
        split at hfl
        · rename_i hlen
          split at hfl
          · rename_i htot
            cases hfl
            obtain ⟨xs, m', _, _, hcl, hxs, hf⟩ := DataW.trod_array hu htr
            have h1 := flatArr_ok (cs := cs) (P.cellsOf e) hlen m (by
              intro i hi
              have h2 := hf i hi
              have hlt : i < xs.length := by omega
              rw [List.getElem?_eq_getElem hlt] at h2
              exact ih m' e _ _ l' hl' h2)
            rw [hlen] at htot
            rwa [htot, ← hcl, List.take_length] at h1
          · cases hfl
        · cases hfl
      · cases hfl
    · cases hfl

/-- A slice whose elements are flat: its cells. -/
theorem trod_slice_flat {n t e : TypeId} {v : Value} {d : DataW H} {ps : List MemPlace} {l : List Sc} (ht : P.underlying t = some (.slice e)) (hl : flat P n e = some l) (hlen : l.length = P.cellsOf e)
    (h : DataW.Trod enc P w base spare held t v d ps) (hv : ∃ a len cap, v = .slice a len cap) :
    v = .slice none 0 0 ∨ ∃ (a : Addr) (len cap : Nat), v = .slice (some a) len cap ∧ len ≤ cap ∧ cap ≤ maxLen ∧
      ∀ i, i < len → ∃ cs, OkCells l cs ∧ ∀ j u, cs[j]? = some u → w.cell? (a.add (i * l.length + j)) = some u := by
  obtain ⟨a0, len0, cap0, rfl⟩ := hv
  obtain ⟨fuel, hf⟩ := h
  rcases Deep.open_slice ht (by simpa [Value.cells] using hf) with ⟨hcs, _⟩ | ⟨a, len, cap, m, n', D, Pl, hcs, _, hlc, hm, hmm, _, hel⟩
  · left; simpa [Value.cells] using hcs
  · right
    refine ⟨a, len, cap, by simpa [Value.cells] using hcs, hlc, hm, fun i hi => ?_⟩
    obtain ⟨cs', hc, hr⟩ := hel i (by rw [hmm]; split <;> omega)
    have hok := trod_flat n n' e cs' _ l hl hr
    refine ⟨cs', hok, fun j u hj => ?_⟩
    unfold World.cells? at hc
    split at hc
    · have hlt : j < cs'.length := (List.getElem?_eq_some_iff.1 hj).1
      rw [hok.length, hlen] at hlt
      obtain ⟨y, hy, hcell⟩ := mapM_some hc j j (by simp [hlt])
      rw [hj] at hy
      cases hy
      rw [Deep.add_add, ← hlen] at hcell
      exact hcell
    · cases hc

/-- All arguments read as before. -/
theorem trodAll_below {W W' : World} (hl : laidOutB P = true) (hb : Below W.heap.size W W') : ∀ (ts : List TypeId) (vs : List Value) (ds : List (DataW H)) (ps : List MemPlace),
    ts.all (fun t => P.readableRec t && decide (t < P.types.size)) = true → DataW.TrodAll enc P W 0 (fun _ => true) true ts vs ds ps → (∀ x ∈ ps, x.block < W.heap.size) →
    DataW.TrodAll enc P W' 0 (fun b => decide (b < W.heap.size)) true ts vs ds ps
  | [], [], [], ps, _, h, _ => h
  | t :: ts, v :: vs, d :: ds, ps, ht, h, hlt => by
    obtain ⟨p, q, h1, h2, rfl⟩ := h
    simp only [List.all_cons, Bool.and_eq_true, decide_eq_true_eq] at ht
    exact ⟨p, q, Below.trod hl ht.1.1 ht.1.2 h1 hb (fun x hx => hlt x (List.mem_append_left _ hx)), trodAll_below hl hb ts vs ds q (by simpa using ht.2) h2 (fun x hx => hlt x (List.mem_append_right _ hx)), rfl⟩
  | [], _ :: _, _, _, _, h, _ => h.elim
  | [], [], _ :: _, _, _, h, _ => h.elim
  | _ :: _, [], _, _, _, h, _ => h.elim
  | _ :: _, _ :: _, [], _, _, h, _ => h.elim

/-- The end of a law: true, and nothing that was there has turned. -/
theorem law_post {f : Func} {s : ChangeSpec} {apart fresh handsOn : Bool} {W W' : World} {args : Array Value} {ds gs : List (DataW H)} {before : List MemPlace} (bt : TypeId) (hl : laidOutB P = true)
    (hW : DataW.Whole enc P f.params.toList s.vars apart W args.toList ds gs before) (hvars : s.vars = []) (hres : f.resultTypes = #[bt]) (hbt : P.underlying bt = some .bool)
    (ht : f.params.toList.all (fun t => P.readableRec t && decide (t < P.types.size)) = true) (hfn : s.fn H (ds ++ gs) = { results := [.lit (.bool true)], args := ds }) (hb : Below W.heap.size W W') :
    s.post enc P f apart fresh handsOn false W args (.bool true) W' := by
  have hlt := hW.lt
  obtain ⟨p, q, h1, h2, hpq, h3, h4⟩ := id hW
  rw [hvars] at h2
  have hgs : gs = [] ∧ q = [] := by cases gs <;> simp_all [DataW.TrodVars]
  obtain ⟨rfl, rfl⟩ := hgs
  simp only [List.append_nil] at hpq
  subst hpq
  refine ⟨ds, [], _, [], before, [], hW, ?_, ?_, ?_, hb.frame _, fun h => by cases h⟩
  · rw [hfn, hres]
    show DataW.TrodAll enc P W' _ _ _ [bt] [.bool true] _ []
    exact trodAll_mk1 (shut_bool hbt true)
  · rw [hfn]
    exact trodAll_below hl hb _ _ _ _ ht h1 hlt
  · rw [hvars, hfn]
    simp [DataW.TrodVars]

/-- What a law comes to. -/
def LawEnd (W : World) : Ending → World → Prop := fun e w' => e = .returned (.bool true) ∧ Below W.heap.size W w'

theorem _root_.Go.Sx.Sat.lawEnd {W w' : World} {L : List Res} (h : Sat W w' L) (i : Nat) (hi : L[i]? = some (old W)) : LawEnd W (.returned (.bool true)) w' := by
  have := h.ok i hi
  exact ⟨rfl, h.os, h.tape, h.output, this.1, this.2⟩

/-- An argument that is a slice of flat elements: nothing in it, or its cells are known. -/
theorem arg_slice {n t e : TypeId} {v : Value} {d : DataW H} {ps : List MemPlace} {l : List Sc} (ht : P.underlying t = some (.slice e)) (hl : flat P n e = some l) (hlen : l.length = P.cellsOf e) (hpos : 0 < l.length)
    (h : DataW.Trod enc P w base spare held t v d ps) (hv : ∃ a len cap, v = .slice a len cap) :
    ∃ (al : Option Addr) (len cap : Nat), v = .slice al len cap ∧ len ≤ cap ∧ cap ≤ maxLen ∧ (len = 0 ∨ ∃ b off, al = some ⟨b, off, none⟩ ∧
      ∀ i, i < len → ∃ cs, OkCells l cs ∧ ∀ j u, cs[j]? = some u → w.cell? ⟨b, off + (i * l.length + j), none⟩ = some u) := by
  rcases trod_slice_flat ht hl hlen h hv with rfl | ⟨a, len, cap, rfl, hlc, hm, hc⟩
  · exact ⟨none, 0, 0, rfl, Nat.le_refl _, Nat.zero_le _, .inl rfl⟩
  · refine ⟨some a, len, cap, rfl, hlc, hm, ?_⟩
    rcases Nat.eq_zero_or_pos len with h0 | hp
    · exact .inl h0
    · right
      obtain ⟨cs, hok, hcs⟩ := hc 0 hp
      have hlt : 0 < cs.length := by rw [hok.length]; exact hpos
      have h1 := hcs 0 cs[0] (List.getElem?_eq_getElem hlt)
      have hspot : a.spot = none := by
        simp only [Nat.zero_mul, Nat.add_zero, Addr.add, if_true] at h1
        unfold World.cell? at h1
        split at h1
        · split at h1
          · cases h1
          · rename_i hs; simpa using hs
        · cases h1
      obtain ⟨b, off, spot⟩ := a
      simp only at hspot
      subst hspot
      refine ⟨b, off, rfl, fun i hi => ?_⟩
      obtain ⟨cs, hok, hcs⟩ := hc i hi
      exact ⟨cs, hok, fun j u hj => by have := hcs j u hj; rwa [add_eq] at this⟩
end
end Go.Sx
