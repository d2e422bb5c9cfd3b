/- The operations that look into memory, over a list of things that lie apart. Of this session's own; no statement about the program. -/
import Derived.Test.YtkddomellpldjaaSxSat
namespace Go.Sx
open Go

/-- An operation with its operands' values. -/
inductive View where
  | load (t : TypeId) (a : Value)
  | store (t : TypeId) (a v : Value)
  | box (t : TypeId) (v : Value)
  | alloc (t : TypeId)
  | slit (t : TypeId) (n : Nat) (parts : List (Nat × Value))
  | bi (b : Builtin) (ts : List TypeId) (ty : TypeId) (args : List Value)
  | ixa (t : TypeId) (x i : Value)
  | ix (t : TypeId) (x i : Value)
  | sl (t : TypeId) (x : Value) (lo hi mx : Option Value)
  | conv (s d : TypeId) (x : Value)
  | mks (t : TypeId) (l c : Value)
  | mkc (t : TypeId) (s : Value)
  | bin (op : BinOp) (t : TypeId) (x y : Value)
  | sel (cases : List (Value × Option Value × TypeId)) (blocking : Bool)

def viewOf (ρ : Operand → Value) (o : Oper) : Option View :=
  match o.op with
  | .load t a => some (.load t (ρ a))
  | .store t a v => some (.store t (ρ a) (ρ v))
  | .box t v => some (.box t (ρ v))
  | .alloc t => some (.alloc t)
  | .buildSlice t n parts => some (.slit t n (parts.toList.map fun (i, x) => (i, ρ x)))
  | .call { callee := .builtin b, args, argTypes } => some (.bi b argTypes.toList o.type (args.toList.map ρ))
  | .indexAddr t x i => some (.ixa t (ρ x) (ρ i))
  | .index t x i => some (.ix t (ρ x) (ρ i))
  | .slice t x lo hi mx => some (.sl t (ρ x) (lo.map ρ) (hi.map ρ) (mx.map ρ))
  | .convert s d x => some (.conv s d (ρ x))
  | .makeSlice t l c => some (.mks t (ρ l) (ρ c))
  | .makeChan t s => some (.mkc t (ρ s))
  | .binOp op t x y _ => some (.bin op t (ρ x) (ρ y))
  | .select cs b => some (.sel (cs.toList.map fun s => (ρ s.chan, s.send.map ρ, s.elem)) b)
  | _ => none

def Cfg.view (c : Cfg) : Option View := c.cur.bind (viewOf (ev c.t))

def Cfg.calls (P : Program) (c : Cfg) : Option (FuncId × List Value) :=
  match c.cur with
  | some o => match pureVal P (execOp (ev c.t) o) with
    | some (.enter g a) => some (g, a.toList)
    | _ => none
  | none => none

/-- The operation that stands next yields v and turns nothing. -/
def Val (P : Program) (c : Cfg) (w : World) (v : Value) : Prop := ∃ o, c.cur = some o ∧ (execOp (ev c.t) o).run P w = .ok (.value v) w

theorem Val.one {P : Program} {c : Cfg} {w : World} {v : Value} {K : Value → World → Prop} (h : Val P c w v) (hk : K v w) : One P c w K :=
  let ⟨_, ho, hr⟩ := h; One.op ho hr hk

section
variable {P : Program} {f : FuncId} {c : Cfg} {w : World} {R : Ending → World → Prop} {K : Value → World → Prop}

theorem view_elim {V : View} (h : c.view = some V) : ∃ o, c.cur = some o ∧ viewOf (ev c.t) o = some V := by
  unfold Cfg.view at h
  exact Option.bind_eq_some_iff.1 h

theorem One.load' {t : TypeId} {a : Value} {v : Value} {w' : World} (hv : c.view = some (.load t a)) (hr : (Instr.loadAt t a).run P w = .ok v w') (h : K v w') : One P c w K := by
  obtain ⟨o, ho, hvo⟩ := view_elim hv
  refine One.op ho ?_ h
  obtain ⟨dst, op, ty, pos, after, guard⟩ := o
  unfold viewOf at hvo
  dsimp only at hvo
  split at hvo <;> cases hvo
  simp [execOp, hr]

theorem Val.load' {t : TypeId} {a : Value} {v : Value} (hv : c.view = some (.load t a)) (hr : (Instr.loadAt t a).run P w = .ok v w) : Val P c w v := by
  obtain ⟨o, ho, hvo⟩ := view_elim hv
  refine ⟨o, ho, ?_⟩
  obtain ⟨dst, op, ty, pos, after, guard⟩ := o
  unfold viewOf at hvo
  dsimp only at hvo
  split at hvo <;> cases hvo
  simp [execOp, hr]

theorem One.store' {t : TypeId} {a v : Value} {w' : World} (hv : c.view = some (.store t a v)) (hr : (Instr.storeAt t a v).run P w = .ok () w') (h : K undef w') : One P c w K := by
  obtain ⟨o, ho, hvo⟩ := view_elim hv
  refine One.opSkip ho ?_ h
  obtain ⟨dst, op, ty, pos, after, guard⟩ := o
  unfold viewOf at hvo
  dsimp only at hvo
  split at hvo <;> cases hvo
  simp [execOp, hr]

theorem One.box' {t : TypeId} {v v' : Value} {w' : World} (hv : c.view = some (.box t v)) (hr : (Instr.box t v).run P w = .ok v' w') (h : K v' w') : One P c w K := by
  obtain ⟨o, ho, hvo⟩ := view_elim hv
  refine One.op ho ?_ h
  obtain ⟨dst, op, ty, pos, after, guard⟩ := o
  unfold viewOf at hvo
  dsimp only at hvo
  split at hvo <;> cases hvo
  simp [execOp, hr]

theorem One.alloc' {t : TypeId} {v' : Value} {w' : World} (hv : c.view = some (.alloc t)) (hr : (Instr.alloc t true (.tuple #[])).run P w = .ok v' w') (h : K v' w') : One P c w K := by
  obtain ⟨o, ho, hvo⟩ := view_elim hv
  refine One.op ho ?_ h
  obtain ⟨dst, op, ty, pos, after, guard⟩ := o
  unfold viewOf at hvo
  dsimp only at hvo
  split at hvo <;> cases hvo
  simp [execOp, hr]

theorem One.slit' {t n : Nat} {parts : List (Nat × Value)} {v' : Value} {w' : World} (hv : c.view = some (.slit t n parts)) (hr : (Instr.buildSlice t n parts.toArray).run P w = .ok v' w') (h : K v' w') : One P c w K := by
  obtain ⟨o, ho, hvo⟩ := view_elim hv
  refine One.op ho ?_ h
  obtain ⟨dst, op, ty, pos, after, guard⟩ := o
  unfold viewOf at hvo
  dsimp only at hvo
  split at hvo <;> cases hvo
  rename_i parts
  have e : (Array.map (fun x => (x.fst, ev c.t x.snd)) parts) = (List.map (fun x => (x.fst, ev c.t x.snd)) parts.toList).toArray := by
    apply Array.ext'
    simp
  simp [execOp, e, hr]

theorem One.bi' {b : Builtin} {ts : List TypeId} {ty : TypeId} {args : List Value} {v' : Value} {w' : World} (hv : c.view = some (.bi b ts ty args))
    (hr : ∀ consts, (builtin b ts.toArray ty consts args.toArray).run P w = .ok (.value v') w') (h : K v' w') : One P c w K := by
  obtain ⟨o, ho, hvo⟩ := view_elim hv
  refine One.op ho ?_ h
  obtain ⟨dst, op, ty, pos, after, guard⟩ := o
  unfold viewOf at hvo
  dsimp only at hvo
  split at hvo <;> cases hvo
  rename_i b args argTypes
  have e : Array.map (ev c.t) args = (List.map (ev c.t) args.toList).toArray := by apply Array.ext'; simp
  simp only [execOp, resolve, invoke, Sem.run_bind, Sem.run_pure, Result.andThen_ok]
  rw [e]
  have := hr
  simp only [Array.toArray_toList] at this
  exact this _

theorem One.ixa' {t : TypeId} {x i : Value} {v' : Value} {w' : World} (hv : c.view = some (.ixa t x i)) (hr : (Instr.indexAt t x i).run P w = .ok v' w') (h : K v' w') : One P c w K := by
  obtain ⟨o, ho, hvo⟩ := view_elim hv
  refine One.op ho ?_ h
  obtain ⟨dst, op, ty, pos, after, guard⟩ := o
  unfold viewOf at hvo
  dsimp only at hvo
  split at hvo <;> cases hvo
  simp [execOp, hr]

theorem Val.ixa' {t : TypeId} {x i : Value} {v' : Value} (hv : c.view = some (.ixa t x i)) (hr : (Instr.indexAt t x i).run P w = .ok v' w) : Val P c w v' := by
  obtain ⟨o, ho, hvo⟩ := view_elim hv
  refine ⟨o, ho, ?_⟩
  obtain ⟨dst, op, ty, pos, after, guard⟩ := o
  unfold viewOf at hvo
  dsimp only at hvo
  split at hvo <;> cases hvo
  simp [execOp, hr]

theorem One.ix' {t : TypeId} {x i : Value} {v' : Value} {w' : World} (hv : c.view = some (.ix t x i)) (hr : (Instr.index t x i).run P w = .ok v' w') (h : K v' w') : One P c w K := by
  obtain ⟨o, ho, hvo⟩ := view_elim hv
  refine One.op ho ?_ h
  obtain ⟨dst, op, ty, pos, after, guard⟩ := o
  unfold viewOf at hvo
  dsimp only at hvo
  split at hvo <;> cases hvo
  simp [execOp, hr]

theorem Val.ix' {t : TypeId} {x i : Value} {v' : Value} (hv : c.view = some (.ix t x i)) (hr : (Instr.index t x i).run P w = .ok v' w) : Val P c w v' := by
  obtain ⟨o, ho, hvo⟩ := view_elim hv
  refine ⟨o, ho, ?_⟩
  obtain ⟨dst, op, ty, pos, after, guard⟩ := o
  unfold viewOf at hvo
  dsimp only at hvo
  split at hvo <;> cases hvo
  simp [execOp, hr]

theorem One.sl' {t : TypeId} {x : Value} {lo hi mx : Option Value} {v' : Value} {w' : World} (hv : c.view = some (.sl t x lo hi mx)) (hr : (Instr.sliceAt t x lo hi mx).run P w = .ok v' w') (h : K v' w') : One P c w K := by
  obtain ⟨o, ho, hvo⟩ := view_elim hv
  refine One.op ho ?_ h
  obtain ⟨dst, op, ty, pos, after, guard⟩ := o
  unfold viewOf at hvo
  dsimp only at hvo
  split at hvo <;> cases hvo
  simp [execOp, hr]

theorem Val.sl' {t : TypeId} {x : Value} {lo hi mx : Option Value} {v' : Value} (hv : c.view = some (.sl t x lo hi mx)) (hr : (Instr.sliceAt t x lo hi mx).run P w = .ok v' w) : Val P c w v' := by
  obtain ⟨o, ho, hvo⟩ := view_elim hv
  refine ⟨o, ho, ?_⟩
  obtain ⟨dst, op, ty, pos, after, guard⟩ := o
  unfold viewOf at hvo
  dsimp only at hvo
  split at hvo <;> cases hvo
  simp [execOp, hr]

theorem One.conv' {s d : TypeId} {x : Value} {v' : Value} {w' : World} (hv : c.view = some (.conv s d x)) (hr : (convert s d x).run P w = .ok v' w') (h : K v' w') : One P c w K := by
  obtain ⟨o, ho, hvo⟩ := view_elim hv
  refine One.op ho ?_ h
  obtain ⟨dst, op, ty, pos, after, guard⟩ := o
  unfold viewOf at hvo
  dsimp only at hvo
  split at hvo <;> cases hvo
  simp [execOp, hr]

theorem One.mks' {t : TypeId} {l k : Value} {v' : Value} {w' : World} (hv : c.view = some (.mks t l k)) (hr : (Instr.makeSlice t l k).run P w = .ok v' w') (h : K v' w') : One P c w K := by
  obtain ⟨o, ho, hvo⟩ := view_elim hv
  refine One.op ho ?_ h
  obtain ⟨dst, op, ty, pos, after, guard⟩ := o
  unfold viewOf at hvo
  dsimp only at hvo
  split at hvo <;> cases hvo
  simp [execOp, hr]

theorem One.mkc' {t : TypeId} {s : Value} {v' : Value} {w' : World} (hv : c.view = some (.mkc t s)) (hr : (Instr.makeChan t s).run P w = .ok v' w') (h : K v' w') : One P c w K := by
  obtain ⟨o, ho, hvo⟩ := view_elim hv
  refine One.op ho ?_ h
  obtain ⟨dst, op, ty, pos, after, guard⟩ := o
  unfold viewOf at hvo
  dsimp only at hvo
  split at hvo <;> cases hvo
  simp [execOp, hr]

theorem One.bin' {op : BinOp} {t : TypeId} {x y : Value} {v' : Value} {w' : World} (hv : c.view = some (.bin op t x y)) (hg : ∀ a b : Operand, (eqGuard op t a b x y).run P w = .ok () w) (hr : (binOp op t x y).run P w = .ok v' w') (h : K v' w') : One P c w K := by
  obtain ⟨o, ho, hvo⟩ := view_elim hv
  refine One.op ho ?_ h
  obtain ⟨dst, op, ty, pos, after, guard⟩ := o
  unfold viewOf at hvo
  dsimp only at hvo
  split at hvo <;> cases hvo
  simp [execOp, hr, hg]

theorem Val.bin' {op : BinOp} {t : TypeId} {x y : Value} {v' : Value} (hv : c.view = some (.bin op t x y)) (hg : ∀ a b : Operand, (eqGuard op t a b x y).run P w = .ok () w) (hr : (binOp op t x y).run P w = .ok v' w) : Val P c w v' := by
  obtain ⟨o, ho, hvo⟩ := view_elim hv
  refine ⟨o, ho, ?_⟩
  obtain ⟨dst, op, ty, pos, after, guard⟩ := o
  unfold viewOf at hvo
  dsimp only at hvo
  split at hvo <;> cases hvo
  simp [execOp, hr, hg]

theorem One.call {E : World} {LL : List Res} {g : FuncId} {args : List Value} {pre : List Res} {post : Value → List Res → Prop} (n : Nat) (ia ib : List Nat)
    (hc : c.calls P = some (g, args)) (hs : Sat E w LL) (spec : Trip P g args pre post) (hn : (ia ++ ib).Nodup ∧ ∀ i ∈ ia ++ ib, i < n) (hp : pickAll ia LL = pre)
    (h : ∀ v pre' w', post v pre' → Sat E w' (pre' ++ (pickAll ib LL ++ LL.drop n)) → K v w') : One P c w K := by
  unfold Cfg.calls at hc
  split at hc
  · rename_i o ho
    split at hc
    · rename_i g' a hpv
      cases hc
      refine One.enter ho (pureVal_run hpv w) ?_
      have h3 := spec E w (pickAll ib LL ++ LL.drop n) (by
        have h2 := hs.selDrop n (ia ++ ib) hn.1 hn.2
        unfold pickAll at h2 hp ⊢
        rw [List.filterMap_append, hp, List.append_assoc] at h2
        exact h2)
      rw [Array.toArray_toList] at h3
      exact h3.mono fun e w' ⟨v, pre', he, hpost, hs'⟩ => ⟨v, he, h v pre' w' hpost hs'⟩
    · cases hc
  · cases hc

end

/-! ### reading and writing known blocks -/

def isAggB (P : Program) (t : TypeId) : Bool :=
  match P.underlying t with
  | some (.struct _) => true
  | some (.array _ _) => true
  | _ => false

def loadV (P : Program) (t : TypeId) (vs : List Value) (off : Nat) : Option Value :=
  match P.underlying t with
  | some (.struct _) | some (.array _ _) =>
    match P.info? t with
    | some i => if off + i.size ≤ vs.length then some (.agg ((vs.drop off).take i.size).toArray) else none
    | none => none
  | some _ => vs[off]?
  | none => none

theorem run_isAgg {P : Program} {t : TypeId} {d : TypeDesc} (h : P.underlying t = some d) (w : World) : (isAgg t).run P w = .ok (match d with | .struct _ => true | .array _ _ => true | _ => false) w := by
  unfold isAgg
  simp only [Sem.run_bind, run_underlying h, Result.andThen_ok]
  cases d <;> rfl

theorem cell_blk {w : World} {b off : Nat} {cs : Array Value} {e : TypeId} {fz : Nat × Nat} (h : w.heap[b]? = some (.cells cs e fz)) : w.cell? ⟨b, off, none⟩ = cs[off]? := by
  simp [World.cell?, h]

theorem add_eq (b off j : Nat) : (⟨b, off, none⟩ : Addr).add j = ⟨b, off + j, none⟩ := by
  unfold Addr.add; split <;> simp_all

theorem run_loadAt_blk {P : Program} {w : World} {t b off : Nat} {vs : List Value} {e : TypeId} {fz : Nat × Nat} {v : Value}
    (h : w.heap[b]? = some (.cells vs.toArray e fz)) (hv : loadV P t vs off = some v) : (Instr.loadAt t (.pointer (some ⟨b, off, none⟩))).run P w = .ok v w := by
  unfold loadV at hv
  have hcell : ∀ j, w.cell? ⟨b, off + j, none⟩ = vs[off + j]? := fun j => by rw [cell_blk h]; simp
  unfold Instr.loadAt Instr.sureAddr loadVar
  simp only [Sem.run_bind, Sem.run_pure, Result.andThen_ok]
  cases hu : P.underlying t with
  | none => simp [hu] at hv
  | some d =>
    rw [run_isAgg hu]
    simp only [hu] at hv
    have agg : ∀ i : TypeInfo, P.info? t = some i → off + i.size ≤ vs.length → ((sizeOf t).run P w).andThen (fun n w' => ((loadCells ⟨b, off, none⟩ n).run P w').andThen fun r w' => Result.ok (Value.agg r) w') = .ok (.agg ((vs.drop off).take i.size).toArray) w := by
      intro i hi hsz
      have := run_loadCells_list (P := P) (w := w) ⟨b, off, none⟩ ((vs.drop off).take i.size) (by
        intro j u hj
        rw [add_eq, hcell, ← hj, List.getElem?_take]
        have hlt := (List.getElem?_eq_some_iff.1 hj).1
        simp at hlt
        rw [if_pos (by omega)]
        simp)
      have hl : ((vs.drop off).take i.size).length = i.size := by simp; omega
      rw [hl] at this
      have e1 : (sizeOf t).run P w = .ok i.size w := by simp [sizeOf, typeInfo, hi]
      simp only [e1, Result.andThen_ok, this]
    cases d with
    | struct fs =>
      dsimp only at hv ⊢
      split at hv
      · rename_i i hi
        split at hv
        · rename_i hsz; cases hv
          simpa using agg i hi hsz
        · cases hv
      · cases hv
    | array n el =>
      dsimp only at hv ⊢
      split at hv
      · rename_i i hi
        split at hv
        · rename_i hsz; cases hv
          simpa using agg i hi hsz
        · cases hv
      · cases hv
    | _ =>
      dsimp only at hv ⊢
      have := hcell 0
      simp only [Nat.add_zero] at this
      simp [this, hv]

section
variable {P : Program} {f : FuncId} {c : Cfg} {E w : World} {R : Ending → World → Prop} {K : Value → World → Prop} {L : List Res}

theorem One.load (i : Nat) {t b off : Nat} {vs : List Value} {e : TypeId} {v : Value} (hs : Sat E w L) (hi : L[i]? = some (cel b e vs)) (hv : c.view = some (.load t (.pointer (some ⟨b, off, none⟩))))
    (hl : loadV P t vs off = some v) (h : K v w) : One P c w K :=
  One.load' hv (run_loadAt_blk (hs.ok i hi) hl) h

/-- A cell that is known by itself. -/
theorem One.loadc {t : Nat} {a : Addr} {v : Value} (hc : w.cell? a = some v) (hv : c.view = some (.load t (.pointer (some a)))) (ha : (P.underlying t).isSome && !isAggB P t) (h : K v w) : One P c w K := by
  refine One.load' hv ?_ h
  simp only [Bool.and_eq_true, Option.isSome_iff_exists] at ha
  obtain ⟨⟨d, hd⟩, ha⟩ := ha
  unfold isAggB at ha
  rw [hd] at ha
  unfold Instr.loadAt Instr.sureAddr loadVar
  simp only [Sem.run_bind, Sem.run_pure, Result.andThen_ok, run_isAgg hd]
  cases d <;> simp_all

theorem Sat.oldCell (hs : Sat E w L) (i : Nat) {W : World} (hi : L[i]? = some (old W)) {a : Addr} {v : Value} (h : W.cell? a = some v) : w.cell? a = some v :=
  (World.cell?_of_block ((hs.ok i hi).2 a.block (World.block_lt_of_cell? W a h))).trans h

def storeV (P : Program) (t : TypeId) (v : Value) (vs : List Value) (off : Nat) : Option (List Value) :=
  match P.info? t with
  | some i => if v.cells.size = i.size then if off + i.size ≤ vs.length then some (vs.take off ++ v.cells.toList ++ vs.drop (off + i.size)) else none else none
  | none => none

def oneCells (l : List Value) : Bool := l.all Value.oneCell'

theorem run_storeAt_blk {P : Program} {t b off : Nat} {vs vs' : List Value} {e : TypeId} {v : Value}
    (h : w.heap[b]? = some (.cells vs.toArray e (0, 0))) (hv : storeV P t v vs off = some vs') (ho : oneCells v.cells.toList = true) :
    (Instr.storeAt t (.pointer (some ⟨b, off, none⟩)) v).run P w = .ok () (w.setRow b vs'.toArray) := by
  unfold storeV at hv
  split at hv
  · rename_i i hi
    split at hv
    · rename_i hsz
      split at hv
      · rename_i hfit
        cases hv
        have hst := run_storeCells_at P b off e v.cells.toList 0 vs.toArray w h (by simp [hsz]; omega) (by
          intro u hu
          unfold oneCells at ho
          exact (List.all_eq_true.1 ho) u hu)
        unfold Instr.storeAt Instr.sureAddr storeVar
        have e1 : (sizeOf t).run P w = .ok i.size w := by simp [sizeOf, typeInfo, hi]
        simp only [Sem.run_bind, Sem.run_pure, Result.andThen_ok, e1, hsz, ne_eq, not_true_eq_false, if_false]
        simp only [Nat.add_zero, Array.length_toList, hsz] at hst
        simpa using hst
      · cases hv
    · cases hv
  · cases hv

theorem oneCell_all {l : List Value} (h : oneCells l = true) : ∀ u ∈ l, u.oneCell' = true := fun u hu => (List.all_eq_true.1 h) u hu

/-- The thing at place i turned: it stands on one block before and after. -/
theorem Sat.upd {w' : World} {r r' : Res} {b : Nat} (hs : Sat E w L) (i : Nat) (hi : L[i]? = some r) (hr : ∀ c, r.fp c ↔ c = b) (hr' : ∀ c, r'.fp c ↔ c = b)
    (ho : w'.os = w.os) (ht : w'.tape = w.tape) (hp : w'.output = w.output) (keep : ∀ c, c ≠ b → w'.heap[c]? = w.heap[c]?) (new : r'.ok w') : Sat E w' (L.set i r') := by
  obtain ⟨hlt, he⟩ := List.getElem?_eq_some_iff.1 hi
  have e1 : L.set i r' = L.take i ++ r' :: L.drop (i + 1) := by rw [List.set_eq_take_append_cons_drop, if_pos hlt]
  have e2 : L = L.take i ++ r :: L.drop (i + 1) := by
    have h2 := List.set_eq_take_append_cons_drop (l := L) (i := i) (a := r)
    rw [if_pos hlt] at h2
    rw [← h2, ← he, List.set_getElem_self]
  have p1 : (L.take i ++ r :: L.drop (i + 1)).Perm (r :: (L.take i ++ L.drop (i + 1))) := List.perm_middle
  have p2 : (r' :: (L.take i ++ L.drop (i + 1))).Perm (L.take i ++ r' :: L.drop (i + 1)) := List.perm_middle.symm
  rw [e2] at hs
  rw [e1]
  exact ((hs.perm p1).turn hr hr' ho ht hp keep new).perm p2

theorem setRow_keep (w : World) (b : Nat) (cs : Array Value) (c : Nat) (h : c ≠ b) : (w.setRow b cs).heap[c]? = w.heap[c]? := by
  simp only [World.setRow, Array.getElem?_modify]
  rw [if_neg (fun e => h e.symm)]

theorem One.store (i : Nat) {t b off : Nat} {vs vs' : List Value} {e : TypeId} {v : Value} (hs : Sat E w L) (hi : L[i]? = some (cel b e vs)) (hv : c.view = some (.store t (.pointer (some ⟨b, off, none⟩)) v))
    (hl : storeV P t v vs off = some vs') (ho : oneCells v.cells.toList = true) (h : ∀ w', Sat E w' (L.set i (cel b e vs')) → K undef w') : One P c w K := by
  refine One.store' hv (run_storeAt_blk (hs.ok i hi) hl ho) (h _ ?_)
  have hb : w.heap[b]? = some (.cells vs.toArray e (0, 0)) := hs.ok i hi
  refine Sat.upd (b := b) hs i hi (fun _ => Iff.rfl) (fun _ => Iff.rfl) rfl rfl rfl (fun c hc => setRow_keep w b _ c hc) ?_
  show (w.setRow b vs'.toArray).heap[b]? = _
  simp [World.setRow, Array.getElem?_modify, hb]

theorem run_newRow' (t : TypeId) (cs : Array Value) (w : World) : (newRow t cs).run P w = .ok ⟨w.heap.size, 0, none⟩ (w.alloc (.cells cs t)) := by
  rfl

theorem One.box {t : Nat} {v : Value} (vs : List Value) (hs : Sat E w L) (hv : c.view = some (.box t v)) (hc : v.cells.toList = vs)
    (h : ∀ n w', Sat E w' (cel n t vs :: L) → K (.pointer (some ⟨n, 0, none⟩)) w') : One P c w K := by
  have e : v.cells = vs.toArray := by apply Array.ext'; simp [hc]
  refine One.box' hv (w' := w.alloc (.cells vs.toArray t)) ?_ (h w.heap.size _ (hs.alloc _))
  simp [Instr.box, newVar, run_newRow', e]

def zeroV (P : Program) (t : TypeId) : Option (List Value) :=
  match P.info? t with
  | some i => match i.zero with
    | some z => some z.cells.toList
    | none => none
  | none => none

theorem One.alloc {t : Nat} (vs : List Value) (hs : Sat E w L) (hv : c.view = some (.alloc t)) (hc : zeroV P t = some vs)
    (h : ∀ n w', Sat E w' (cel n t vs :: L) → K (.pointer (some ⟨n, 0, none⟩)) w') : One P c w K := by
  unfold zeroV at hc
  split at hc
  · rename_i i hi
    split at hc
    · rename_i z hz
      cases hc
      refine One.alloc' hv (w' := w.alloc (.cells z.cells.toList.toArray t)) ?_ (h w.heap.size _ (hs.alloc _))
      simp [Instr.alloc, zeroValue, typeInfo, hi, hz, newVar, run_newRow']
    · cases hc
  · cases hc

def slitV (P : Program) (t n : Nat) (parts : List (Nat × Value)) : Option (TypeId × List Value) :=
  match P.underlying t with
  | some (.slice e) => match P.info? e with
    | some i => if n * i.size > 2 ^ 24 then none else
      match i.zero with
      | some z => match Instr.fill (fun j => some (j * i.size, i.size)) ((Array.range (n * i.size)).map ((if n * i.size = 0 then #[] else z.cells)[· % (if n * i.size = 0 then #[] else z.cells).size]!)) parts with
        | some cs => some (e, cs.toList)
        | none => none
      | none => none
    | none => none
  | _ => none

theorem One.slit {t n : Nat} {parts : List (Nat × Value)} (e : TypeId) (vs : List Value) (hs : Sat E w L) (hv : c.view = some (.slit t n parts)) (hc : slitV P t n parts = some (e, vs))
    (h : ∀ b w', Sat E w' (cel b e vs :: L) → K (.slice (some ⟨b, 0, none⟩) n n) w') : One P c w K := by
  unfold slitV at hc
  split at hc
  · rename_i e' he
    split at hc
    · rename_i i hi
      split at hc
      · cases hc
      · rename_i hsz
        split at hc
        · rename_i z hz
          split at hc
          · rename_i cs hcs
            cases hc
            refine One.slit' hv (w' := w.alloc (.cells cs.toList.toArray e)) ?_ (h w.heap.size _ (hs.alloc _))
            unfold Instr.buildSlice
            have e1 : (sizeOf e).run P w = .ok i.size w := by simp [sizeOf, typeInfo, hi]
            have e2 : (zeroValue e).run P w = .ok z w := by simp [zeroValue, typeInfo, hi, hz]
            simp only [Sem.run_bind, run_underlying he, Result.andThen_ok, e1, if_neg hsz]
            by_cases h0 : n * i.size = 0
            · simp only [if_pos h0] at hcs ⊢
              simp only [Sem.run_bind, Sem.run_pure, Result.andThen_ok]
              rw [hcs]
              simp [run_newRow']
            · simp only [if_neg h0] at hcs ⊢
              simp only [Sem.run_bind, Sem.run_pure, Result.andThen_ok, e2]
              rw [hcs]
              simp [run_newRow']
          · cases hc
        · cases hc
    · cases hc
  · cases hc

def elemOf? (P : Program) (t : TypeId) : Option (TypeId × Nat) :=
  match P.underlying t with
  | some (.slice e) => match P.info? e with
    | some i => some (e, i.size)
    | none => none
  | _ => none

theorem elemOf_elim {t e sz : Nat} (h : elemOf? P t = some (e, sz)) : P.underlying t = some (.slice e) ∧ ∀ w, (sizeOf e).run P w = .ok sz w := by
  unfold elemOf? at h
  split at h
  · rename_i e' he
    split at h
    · rename_i i hi
      cases h
      exact ⟨he, fun w => by simp [sizeOf, typeInfo, hi]⟩
    · cases h
  · cases h

/-- An index into a slice. -/
theorem Val.ixa {t b off len cap e sz : Nat} {kd : IntKind} {i : Int} (k o : Nat) (hv : c.view = some (.ixa t (.slice (some ⟨b, off, none⟩) len cap) (.int kd i))) (he : elemOf? P t = some (e, sz))
    (hi : i = k) (hk : k < len) (ho : off + k * sz = o) : Val P c w (.pointer (some ⟨b, o, none⟩)) := by
  obtain ⟨hu, hsz⟩ := elemOf_elim he
  refine Val.ixa' hv ?_
  subst hi ho
  have h1 : (0 : Int) ≤ k ∧ (k : Int) < len := ⟨by omega, by omega⟩
  simp [Instr.indexAt, asIntOf, run_underlying hu, h1, hsz, add_eq, hk]

theorem One.ixa {t b off len cap e sz : Nat} {kd : IntKind} {i : Int} (k o : Nat) (hv : c.view = some (.ixa t (.slice (some ⟨b, off, none⟩) len cap) (.int kd i))) (he : elemOf? P t = some (e, sz))
    (hi : i = k) (hk : k < len) (ho : off + k * sz = o) (h : K (.pointer (some ⟨b, o, none⟩)) w) : One P c w K :=
  Val.one (Val.ixa k o hv he hi hk ho) h

def arrOf? (P : Program) (t : TypeId) : Option (Nat × Nat) :=
  match P.underlying t with
  | some (.array n e) => match P.info? e with
    | some i => some (n, i.size)
    | none => none
  | _ => none

theorem arrOf_elim {t n sz : Nat} (h : arrOf? P t = some (n, sz)) : ∃ e, P.underlying t = some (.array n e) ∧ ∀ w, (sizeOf e).run P w = .ok sz w := by
  unfold arrOf? at h
  split at h
  · rename_i n' e' he
    split at h
    · rename_i i hi
      cases h
      exact ⟨e', he, fun w => by simp [sizeOf, typeInfo, hi]⟩
    · cases h
  · cases h

/-- An index into an array. -/
theorem Val.ixaA {t b off n sz : Nat} {kd : IntKind} {i : Int} (k o : Nat) (hv : c.view = some (.ixa t (.pointer (some ⟨b, off, none⟩)) (.int kd i))) (he : arrOf? P t = some (n, sz))
    (hi : i = k) (hk : k < n) (ho : off + k * sz = o) : Val P c w (.pointer (some ⟨b, o, none⟩)) := by
  obtain ⟨e, hu, hsz⟩ := arrOf_elim he
  refine Val.ixa' hv ?_
  subst hi ho
  have h1 : (0 : Int) ≤ k ∧ (k : Int) < n := ⟨by omega, by omega⟩
  simp [Instr.indexAt, Instr.sureAddr, asIntOf, run_underlying hu, h1, hsz, add_eq, hk]

theorem One.ixaA {t b off n sz : Nat} {kd : IntKind} {i : Int} (k o : Nat) (hv : c.view = some (.ixa t (.pointer (some ⟨b, off, none⟩)) (.int kd i))) (he : arrOf? P t = some (n, sz))
    (hi : i = k) (hk : k < n) (ho : off + k * sz = o) (h : K (.pointer (some ⟨b, o, none⟩)) w) : One P c w K :=
  Val.one (Val.ixaA k o hv he hi hk ho) h

/-- A byte of a string. -/
theorem Val.ixS {t : Nat} {s : ByteArray} {kd : IntKind} {i : Int} {x : UInt8} (k : Nat) (hv : c.view = some (.ix t (.string s) (.int kd i))) (ht : P.underlying t = some .string)
    (hi : i = k) (hk : s.data.toList[k]? = some x) : Val P c w (.int .u8 x.toNat) := by
  refine Val.ix' hv ?_
  subst hi
  have hx : s[k]? = some x := by
    obtain ⟨hlt, he⟩ := List.getElem?_eq_some_iff.1 hk
    have hlt' : k < s.size := by have h3 := hlt; rw [Array.length_toList] at h3; exact h3
    rw [getElem?_pos s k hlt']
    congr 1
  simp [Instr.index, asIntOf, run_underlying ht, hx]

theorem One.ixS {t : Nat} {s : ByteArray} {kd : IntKind} {i : Int} {x : UInt8} (k : Nat) (hv : c.view = some (.ix t (.string s) (.int kd i))) (ht : P.underlying t = some .string)
    (hi : i = k) (hk : s.data.toList[k]? = some x) (h : K (.int .u8 x.toNat) w) : One P c w K :=
  Val.one (Val.ixS k hv ht hi hk) h

/-- A piece of a string. -/
theorem Val.slS {t : Nat} {s : ByteArray} {lo hi : Option Value} (l k : Nat) (hv : c.view = some (.sl t (.string s) lo hi none)) (ht : P.underlying t = some .string)
    (hl : ∀ v, lo = some v → ∃ kd i, v = .int kd i ∧ i = (l : Int)) (hl0 : lo = none → l = 0) (hh : ∀ v, hi = some v → ∃ kd i, v = .int kd i ∧ i = (k : Int)) (hh0 : hi = none → k = s.size)
    (h1 : l ≤ k) (h2 : k ≤ s.size) : Val P c w (.string (s.extract l k)) := by
  refine Val.sl' hv ?_
  have e1 : (0 : Int) ≤ l ∧ (l : Int) ≤ k := ⟨by omega, by omega⟩
  have e2 : (0 : Int) ≤ k ∧ (k : Int) ≤ s.size := ⟨by omega, by omega⟩
  unfold Instr.sliceAt
  simp only [Sem.run_bind, run_underlying ht, Result.andThen_ok, Instr.slice, Instr.sliceBounds]
  cases lo with
  | none =>
    cases hi with
    | none => simp [hl0 rfl, hh0 rfl]
    | some v => obtain ⟨kd, i, rfl, rfl⟩ := hh v rfl; have := hl0 rfl; subst this; simp [Instr.sliceBound, asIntOf]; intro hbad; omega
  | some u =>
    obtain ⟨kd', i', rfl, rfl⟩ := hl u rfl
    cases hi with
    | none => have := hh0 rfl; subst this; simp [Instr.sliceBound, asIntOf, e1, h1]
    | some v => obtain ⟨kd, i, rfl, rfl⟩ := hh v rfl; simp [Instr.sliceBound, asIntOf, e1, h1, e2, h2]

theorem One.slS {t : Nat} {s : ByteArray} {lo hi : Option Value} (l k : Nat) (hv : c.view = some (.sl t (.string s) lo hi none)) (ht : P.underlying t = some .string)
    (hl : ∀ v, lo = some v → ∃ kd i, v = .int kd i ∧ i = (l : Int)) (hl0 : lo = none → l = 0) (hh : ∀ v, hi = some v → ∃ kd i, v = .int kd i ∧ i = (k : Int)) (hh0 : hi = none → k = s.size)
    (h1 : l ≤ k) (h2 : k ≤ s.size) (h : K (.string (s.extract l k)) w) : One P c w K :=
  Val.one (Val.slS l k hv ht hl hl0 hh hh0 h1 h2) h

/-- A piece of a slice. -/
theorem One.slL {t e sz len cap : Nat} {a : Option Addr} {lo hi : Option Value} (l k : Nat) (hv : c.view = some (.sl t (.slice a len cap) lo hi none)) (he : elemOf? P t = some (e, sz))
    (hl : ∀ v, lo = some v → ∃ kd i, v = .int kd i ∧ i = (l : Int)) (hl0 : lo = none → l = 0) (hh : ∀ v, hi = some v → ∃ kd i, v = .int kd i ∧ i = (k : Int)) (hh0 : hi = none → k = len)
    (h1 : l ≤ k) (h2 : k ≤ cap) (h : K (.slice (if cap = l then a else a.map (·.add (l * sz))) (k - l) (cap - l)) w) : One P c w K := by
  obtain ⟨hu, hsz⟩ := elemOf_elim he
  refine One.sl' hv ?_ h
  have e1 : (0 : Int) ≤ l ∧ (l : Int) ≤ k := ⟨by omega, by omega⟩
  have e2 : (0 : Int) ≤ k ∧ (k : Int) ≤ cap := ⟨by omega, by omega⟩
  unfold Instr.sliceAt
  simp only [Sem.run_bind, run_underlying hu, Result.andThen_ok, Instr.slice, Instr.sliceBounds]
  cases lo with
  | none =>
    cases hi with
    | none => have := hh0 rfl; subst this; simp [hl0 rfl, hsz]
    | some v => obtain ⟨kd, i, rfl, rfl⟩ := hh v rfl; have := hl0 rfl; subst this; simp [Instr.sliceBound, asIntOf, hsz]; intro hbad; omega
  | some u =>
    obtain ⟨kd', i', rfl, rfl⟩ := hl u rfl
    cases hi with
    | none => have := hh0 rfl; subst this; simp [Instr.sliceBound, asIntOf, e1, h1, hsz]
    | some v => obtain ⟨kd, i, rfl, rfl⟩ := hh v rfl; simp [Instr.sliceBound, asIntOf, e1, h1, e2, h2, hsz]

/-- '+' of strings. -/
theorem Val.cat {t : Nat} {x y : ByteArray} (hv : c.view = some (.bin .add t (.string x) (.string y))) (hz : x.size + y.size ≤ 9223372036854775807) : Val P c w (.string (x ++ y)) := by
  refine Val.bin' hv (fun _ _ => by simp [eqGuard]) ?_
  simp only [binOp, Op.stringOp]
  rw [if_neg (by simp [IntKind.max, IntKind.signed, IntKind.bits]; omega)]
  rfl

theorem One.cat {t : Nat} {x y : ByteArray} (hv : c.view = some (.bin .add t (.string x) (.string y))) (hz : x.size + y.size ≤ 9223372036854775807) (h : K (.string (x ++ y)) w) : One P c w K :=
  Val.one (Val.cat hv hz) h

end
end Go.Sx
