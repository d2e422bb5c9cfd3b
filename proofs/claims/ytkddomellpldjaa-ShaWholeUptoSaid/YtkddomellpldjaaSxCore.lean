/- A small machinery of this session's own: stepping through a function's operations, evaluated by the kernel. No statement about the program. -/
import Derived.Calls
import Derived.KernelRfl
import Derived.Below
namespace Go.Sx
open Go

/-- A configuration: temporaries and what is left to do. -/
structure Cfg where
  t : List Value
  k : List Item

def ev (l : List Value) : Operand → Value
  | .tmp t => l.getD t undef
  | .const v => v
  | .global g => .pointer (some ⟨g, 0, none⟩)
  | .func f => .func (.func f) #[] #[]

theorem eval_ev (l : List Value) (ds : List Deferred) : Act.eval ⟨l.toArray, ds⟩ = ev l := by
  funext x; cases x <;> simp [Act.eval, ev]

def bs (f : FuncId) : Frame := { (default : Frame) with fn := f, kind := .normal }

def frm (f : FuncId) (c : Cfg) : Frame := (bs f).at ⟨c.t.toArray, []⟩ c.k

/-- From here the run comes to an end of which R holds. -/
def To (P : Program) (f : FuncId) (c : Cfg) (w : World) (R : Ending → World → Prop) : Prop :=
  ∀ cs, ∃ e w' g, R e w' ∧ Comes P (lone (frm f c) cs w) (lone g cs w') e ∧ g.fn = f ∧ g.leaving P w' e

theorem To.steps {P : Program} {f : FuncId} {c c' : Cfg} {w w' : World} {R : Ending → World → Prop}
    (hs : ∀ cs, Steps P (lone (frm f c) cs w) (lone (frm f c') cs w')) (h : To P f c' w' R) : To P f c w R := by
  intro cs
  obtain ⟨e, w₂, g, hR, hc, hf, hl⟩ := h cs
  exact ⟨e, w₂, g, hR, Comes.of_steps (hs cs) hc, hf, hl⟩

theorem To.step {P : Program} {f : FuncId} {c c' : Cfg} {w w' : World} {R : Ending → World → Prop}
    (hs : ∀ cs, step P (lone (frm f c) cs w) = .next (lone (frm f c') cs w')) (h : To P f c' w' R) : To P f c w R :=
  To.steps (fun cs => Steps.one (hs cs)) h

theorem To.mono {P : Program} {f : FuncId} {c : Cfg} {w : World} {R R' : Ending → World → Prop} (h : To P f c w R) (hr : ∀ e w, R e w → R' e w) : To P f c w R' := by
  intro cs
  obtain ⟨e, w₂, g, hR, hc⟩ := h cs
  exact ⟨e, w₂, g, hr _ _ hR, hc⟩

/-- No function. -/
def noFunc : Func := { name := "", origin := "", params := #[], resultTypes := #[], nfree := 0, ntmps := 0, results := #[], body := none, norace := false, tmpNames := #[] }

/-- How a call begins. -/
def ent (fn : Func) (args : List Value) : Cfg :=
  ⟨args ++ List.replicate (fn.ntmps - args.length) undef, [.code (fn.body.getD .skip)]⟩

theorem start {P : Program} {f : FuncId} {fn : Func} {args : List Value} {w : World} {R : Ending → World → Prop}
    (hf : P.funcs[f]? = some fn) (hb : fn.body.isSome = true) (h : To P f (ent fn args) w R) : Calls P f args.toArray w R := by
  intro cs
  have e : Frame.enter P f args.toArray .normal = frm f (ent fn args) := by
    obtain ⟨c, hc⟩ := Option.isSome_iff_exists.1 hb
    simp [Frame.enter, hf, hc, frm, ent, bs, Frame.at]
  rw [e]
  exact h cs

/-! ### operations -/

def put (l : List Value) (dst : Option Tmp) (v : Value) : List Value := match dst with | some d => l.set d v | none => l

theorem act_put (l : List Value) (ds : List Deferred) (dst : Option Tmp) (v : Value) : (Act.put ⟨l.toArray, ds⟩ dst v) = ⟨(put l dst v).toArray, ds⟩ := by
  cases dst <;> simp [Act.put, put]

def yl (ops : Array Oper) (l : List Value) (j : Nat) : Option Bool :=
  match ((ops[j]?).bind (·.dst)).bind (l[·]?) with
  | some (.bool b) => some b
  | _ => none

theorem yl_eq (ops : Array Oper) (l : List Value) : yielded ops l.toArray = yl ops l := by
  funext j; unfold yielded yl
  have e : (((ops[j]?).bind (·.dst)).bind fun i => l.toArray[i]?) = (((ops[j]?).bind (·.dst)).bind fun i => l[i]?) := by simp
  rw [e]
  generalize (((ops[j]?).bind (·.dst)).bind fun i => l[i]?) = x
  cases x with
  | none => rfl
  | some v => cases v <;> rfl

/-- The operation that stands next and is wanted. -/
def Cfg.cur (c : Cfg) : Option Oper :=
  match c.k with
  | .inRegion ops (i :: _) :: _ => match ops[i]? with
    | some o => if Region.wanted o (yl ops c.t) then some o else none
    | none => none
  | _ => none

def Cfg.fin (c : Cfg) (v : Value) : Cfg :=
  match c.k with
  | .inRegion ops (i :: r) :: k => ⟨put c.t ((ops[i]?).bind (·.dst)) v, .inRegion ops r :: k⟩
  | _ => c

theorem cur_elim {c : Cfg} {o : Oper} (h : c.cur = some o) : ∃ ops i r k, c.k = .inRegion ops (i :: r) :: k ∧ ops[i]? = some o ∧ Region.wanted o (yl ops c.t) = true ∧ ∀ v, c.fin v = ⟨put c.t o.dst v, .inRegion ops r :: k⟩ := by
  unfold Cfg.cur at h
  split at h
  · rename_i ops i r k hk
    split at h
    · rename_i o' ho
      split at h
      · rename_i hw
        cases h
        exact ⟨ops, i, r, k, hk, ho, hw, fun v => by simp [Cfg.fin, hk, ho]⟩
      · cases h
    · cases h
  · cases h

theorem stepG_cur {P : Program} {f : FuncId} {c : Cfg} {o : Oper} (h : c.cur = some o) (cs : List Frame) (w : World) :
    stepG P true { frame := frm f c, callers := cs, status := .running, dying := none } w = stepG.apply P true (frm f c) cs none (execOp (ev c.t) o) w := by
  obtain ⟨ops, i, r, k, hk, ho, hw, _⟩ := cur_elim h
  have := stepG_op (P := P) (b := bs f) (a := ⟨c.t.toArray, []⟩) (k := k) (cs := cs) (w := w) (rest := r) ho (by rw [← hw]; exact congrArg _ (yl_eq ops c.t))
  rw [eval_ev] at this
  rw [frm, hk]; exact this

theorem frm_fin {f : FuncId} {c : Cfg} {o : Oper} (h : c.cur = some o) (v : Value) : (frm f c).finish v = frm f (c.fin v) := by
  obtain ⟨ops, i, r, k, hk, ho, hw, hv⟩ := cur_elim h
  rw [hv, frm, hk, Frame.finish_at, ho]
  simp only [Option.bind_some, act_put]; rfl

theorem To.op {P : Program} {f : FuncId} {c : Cfg} {o : Oper} {w w' : World} {v : Value} {R : Ending → World → Prop}
    (h : c.cur = some o) (hr : (execOp (ev c.t) o).run P w = .ok (.value v) w') (ht : To P f (c.fin v) w' R) : To P f c w R := by
  refine To.step (fun cs => step_lone_go ?_) ht
  rw [stepG_cur h, ← frm_fin h]; simp [stepG.apply, hr]

theorem To.opSkip {P : Program} {f : FuncId} {c : Cfg} {o : Oper} {w w' : World} {R : Ending → World → Prop}
    (h : c.cur = some o) (hr : (execOp (ev c.t) o).run P w = .ok .skip w') (ht : To P f (c.fin undef) w' R) : To P f c w R := by
  refine To.step (fun cs => step_lone_go ?_) ht
  rw [stepG_cur h, ← frm_fin h]; simp [stepG.apply, hr]

theorem To.enter {P : Program} {f g : FuncId} {args : Array Value} {c : Cfg} {o : Oper} {w w₁ : World} {R R' : Ending → World → Prop}
    (h : c.cur = some o) (hr : (execOp (ev c.t) o).run P w = .ok (.enter g args) w₁) (hc : Calls P g args w₁ R')
    (ht : ∀ e w', R' e w' → ∃ v, e = .returned v ∧ To P f (c.fin v) w' R) : To P f c w R := by
  intro cs
  obtain ⟨e, w', fr, hR, hcomes, _, hleave⟩ := hc (frm f c :: cs)
  obtain ⟨v, rfl, hto⟩ := ht e w' hR
  obtain ⟨e₂, w₂, g₂, hR₂, hc₂, hf₂, hl₂⟩ := hto cs
  have henter : Go.step P (lone (frm f c) cs w) = .next (lone (Frame.enter P g args .normal) (frm f c :: cs) w₁) :=
    step_lone_go (by
      obtain ⟨ops, i, r, k, hk, ho, hw, hv⟩ := cur_elim h
      rw [stepG_cur h]
      simp [stepG.apply, hr, frm, hk, Frame.at])
  refine ⟨e₂, w₂, g₂, hR₂, ?_, hf₂, hl₂⟩
  refine Comes.of_steps (.head henter (Steps.trans hcomes (.one ?_))) hc₂
  rw [← frm_fin h]; exact step_leave_returned hleave

/-- One operation, a call among them. -/
def OneOp (P : Program) (ρ : Operand → Value) (o : Oper) (w : World) (K : Value → World → Prop) : Prop :=
  match (execOp ρ o).run P w with
  | .ok (.value v) w' => K v w'
  | .ok .skip w' => K undef w'
  | .ok (.enter g args) w₁ => Calls P g args w₁ fun e w' => ∃ v, e = .returned v ∧ K v w'
  | _ => False

def One (P : Program) (c : Cfg) (w : World) (K : Value → World → Prop) : Prop := ∃ o, c.cur = some o ∧ OneOp P (ev c.t) o w K

theorem One.op {P : Program} {c : Cfg} {o : Oper} {w w' : World} {v : Value} {K : Value → World → Prop} (h : c.cur = some o) (hr : (execOp (ev c.t) o).run P w = .ok (.value v) w') (hk : K v w') : One P c w K :=
  ⟨o, h, by unfold OneOp; rw [hr]; exact hk⟩
theorem One.opSkip {P : Program} {c : Cfg} {o : Oper} {w w' : World} {K : Value → World → Prop} (h : c.cur = some o) (hr : (execOp (ev c.t) o).run P w = .ok .skip w') (hk : K undef w') : One P c w K :=
  ⟨o, h, by unfold OneOp; rw [hr]; exact hk⟩
theorem One.enter {P : Program} {c : Cfg} {o : Oper} {w w₁ : World} {g : FuncId} {args : Array Value} {K : Value → World → Prop} (h : c.cur = some o) (hr : (execOp (ev c.t) o).run P w = .ok (.enter g args) w₁)
    (hk : Calls P g args w₁ fun e w' => ∃ v, e = .returned v ∧ K v w') : One P c w K :=
  ⟨o, h, by unfold OneOp; rw [hr]; exact hk⟩

theorem To.one {P : Program} {f : FuncId} {c : Cfg} {w : World} {R : Ending → World → Prop} (h : One P c w fun v w' => To P f (c.fin v) w' R) : To P f c w R := by
  obtain ⟨o, ho, h⟩ := h
  unfold OneOp at h
  split at h
  · rename_i hr; exact To.op ho hr h
  · rename_i hr; exact To.opSkip ho hr h
  · rename_i hr; exact To.enter ho hr h (fun e w' ⟨v, he, hk⟩ => ⟨v, he, hk⟩)
  · exact h.elim

/-! ### what needs no world -/

def pureVal (P : Program) : Sem Next → Option Next
  | .pure v => some v
  | .program k => pureVal P (k P)
  | _ => none

theorem pureVal_run {P : Program} {s : Sem Next} {v : Next} (h : pureVal P s = some v) (w : World) : s.run P w = .ok v w := by
  induction s with
  | pure a => simp [pureVal] at h; subst h; rfl
  | program k ih => simp only [pureVal] at h; simp only [Sem.run]; exact ih P h
  | _ => simp [pureVal] at h

def opVal (P : Program) (l : List Value) (o : Oper) : Option Value :=
  match pureVal P (execOp (ev l) o) with
  | some (.value v) => some v
  | _ => none

def pstep (P : Program) (c : Cfg) : Option Cfg :=
  match c.k with
  | .code .skip :: k => some ⟨c.t, k⟩
  | .code (.label _) :: k => some ⟨c.t, k⟩
  | .inBlock _ :: k => some ⟨c.t, k⟩
  | .inScope _ :: k => some ⟨c.t, k⟩
  | .code (.seq a b) :: k => some ⟨c.t, .code a :: .code b :: k⟩
  | .code (.cond x a b) :: k => match ev c.t x with
    | .bool true => some ⟨c.t, .code a :: k⟩
    | .bool false => some ⟨c.t, .code b :: k⟩
    | _ => none
  | .code (.block id body) :: k => some ⟨c.t, .code body :: .inBlock id :: k⟩
  | .code (.loop body) :: k => some ⟨c.t, .code body :: .inLoop body :: k⟩
  | .inLoop body :: k => some ⟨c.t, .code body :: .inLoop body :: k⟩
  | .code (.scope body) :: k => some ⟨c.t, .code body :: .inScope body :: k⟩
  | .code (.exit id) :: k => match exitTo id k with
    | some k' => some ⟨c.t, k'⟩
    | none => none
  | .code (.goto l) :: k => match gotoIn l k with
    | some k' => some ⟨c.t, k'⟩
    | none => none
  | .code (.region _ ops false) :: k => some ⟨c.t, .inRegion ops (List.range ops.size) :: k⟩
  | .inRegion _ [] :: k => some ⟨c.t, k⟩
  | .inRegion ops (i :: r) :: k => match ops[i]? with
    | some o => match Region.wanted o (yl ops c.t) with
      | true => match opVal P c.t o with
        | some v => some ⟨put c.t o.dst v, .inRegion ops r :: k⟩
        | none => none
      | false => some ⟨put c.t o.dst undef, .inRegion ops r :: k⟩
    | none => none
  | _ => none

theorem pstep_sound {P : Program} {f : FuncId} {c c' : Cfg} (h : pstep P c = some c') (cs : List Frame) (w : World) :
    step P (lone (frm f c) cs w) = .next (lone (frm f c') cs w) := by
  obtain ⟨t, k⟩ := c
  unfold pstep at h
  dsimp only at h
  split at h
  · cases h; exact step_skip
  · cases h; exact step_label
  · cases h; exact step_inBlock
  · cases h; exact step_lone_go (by simp [stepG, stepG.exec, frm, Frame.at])
  · cases h; exact step_seq
  · split at h
    · rename_i hx; cases h; exact step_cond (t := true) (by rw [eval_ev]; exact hx)
    · rename_i hx; cases h; exact step_cond (t := false) (by rw [eval_ev]; exact hx)
    · cases h
  · cases h; exact step_block
  · cases h; exact step_loop
  · cases h; exact step_inLoop
  · cases h; exact step_lone_go (by simp [stepG, stepG.exec, frm, Frame.at])
  · split at h
    · rename_i hx; cases h; exact step_exit hx
    · cases h
  · split at h
    · rename_i hx; cases h; exact step_goto hx
    · cases h
  · cases h; exact step_region
  · cases h; exact step_region_end
  · rename_i ops i r k
    split at h
    · rename_i o ho
      split at h
      · rename_i hw
        split at h
        · rename_i v hv
          cases h
          have hcur : (Cfg.mk t (.inRegion ops (i :: r) :: k)).cur = some o := by simp [Cfg.cur, ho, hw]
          have hfin : (Cfg.mk t (.inRegion ops (i :: r) :: k)).fin v = ⟨put t o.dst v, .inRegion ops r :: k⟩ := by simp [Cfg.fin, ho]
          refine step_lone_go ?_
          rw [stepG_cur hcur, ← hfin, ← frm_fin hcur]
          unfold opVal at hv
          split at hv
          · rename_i v' hp
            cases hv
            simp [stepG.apply, pureVal_run hp]
          · cases hv
        · cases h
      · rename_i hw
        cases h
        have := step_op_skip (P := P) (b := bs f) (a := ⟨t.toArray, []⟩) (k := k) (cs := cs) (w := w) (ops := ops) (i := i) (rest := r) (by simp [ho, yl_eq, hw])
        rw [ho] at this
        simp only [Option.bind_some, act_put] at this
        exact this
    · cases h
  · cases h

def prun (P : Program) : Nat → Cfg → Cfg
  | 0, c => c
  | n + 1, c => match pstep P c with
    | some c' => prun P n c'
    | none => c

theorem To.run {P : Program} {f : FuncId} {w : World} {R : Ending → World → Prop} (n : Nat) : ∀ {c : Cfg}, To P f (prun P n c) w R → To P f c w R := by
  induction n with
  | zero => exact fun h => h
  | succ n ih =>
    intro c h
    unfold prun at h
    split at h
    · rename_i c' hc
      exact To.step (fun cs => pstep_sound hc cs w) (ih h)
    · exact h

/-! ### slots -/

def Cfg.set (c : Cfg) (s : Nat) (v : Value) : Cfg := ⟨c.t.set s v, c.k⟩
def Cfg.get (c : Cfg) (s : Nat) : Value := c.t.getD s undef
def Cfg.sets (c : Cfg) (l : List (Nat × Value)) : Cfg := l.foldl (fun c p => c.set p.1 p.2) c
/-- The slots of J hold whatever. -/
def Cfg.junk (c : Cfg) (J : List Nat) (j : Nat → Value) : Cfg := J.foldl (fun c s => c.set s (j s)) c

theorem set_get_same (c : Cfg) (s : Nat) (v : Value) (h : c.t[s]? = some v) : c.set s v = c := by
  obtain ⟨t, k⟩ := c
  simp only [Cfg.set]
  congr 1
  dsimp only at h
  apply List.ext_getElem?
  intro i
  rw [List.getElem?_set]
  split
  · rename_i e; subst e
    obtain ⟨hlt, he⟩ := List.getElem?_eq_some_iff.1 h
    simp [hlt, he]
  · rfl

theorem To.known {P : Program} {f : FuncId} {c : Cfg} {w : World} {R : Ending → World → Prop} (s : Nat) {v : Value} (v' : Value)
    (hs : c.t[s]? = some v) (e : v = v') (h : To P f (c.set s v') w R) : To P f c w R := by
  subst e
  rw [set_get_same c s v hs] at h
  exact h

theorem To.isTrue {P : Program} {f : FuncId} {c : Cfg} {w : World} {R : Ending → World → Prop} (s : Nat) {t : Bool}
    (hs : c.t[s]? = some (.bool t)) (e : t = true) (h : To P f (c.set s (.bool true)) w R) : To P f c w R :=
  To.known s _ hs (by rw [e]) h
theorem To.isFalse {P : Program} {f : FuncId} {c : Cfg} {w : World} {R : Ending → World → Prop} (s : Nat) {t : Bool}
    (hs : c.t[s]? = some (.bool t)) (e : t = false) (h : To P f (c.set s (.bool false)) w R) : To P f c w R :=
  To.known s _ hs (by rw [e]) h

theorem To.split {P : Program} {f : FuncId} {c : Cfg} {w : World} {R : Ending → World → Prop} (s : Nat) {t : Bool}
    (hs : c.t[s]? = some (.bool t)) (ht : t = true → To P f (c.set s (.bool true)) w R) (hf : t = false → To P f (c.set s (.bool false)) w R) : To P f c w R := by
  cases t
  · exact To.isFalse s hs rfl (hf rfl)
  · exact To.isTrue s hs rfl (ht rfl)

theorem To.eq {P : Program} {f : FuncId} {c c' : Cfg} {w : World} {R : Ending → World → Prop} (e : c = c') (h : To P f c' w R) : To P f c w R := e ▸ h

/-! ### places in the text -/

/-- What is left to do at each place where two ways may meet, and at each loop's head. -/
def places : Code → List Item → List (List Item)
  | .seq a b, k => (.code b :: k) :: (places a (.code b :: k) ++ places b k)
  | .cond _ a b, k => places a k ++ places b k
  | .block id b, k => places b (.inBlock id :: k)
  | .loop b, k => (.code b :: .inLoop b :: k) :: places b (.inLoop b :: k)
  | .scope b, k => places b (.inScope b :: k)
  | _, _ => []

/-- At place n of a body: the slots of l hold what l says, the others whatever. -/
def Cfg.here (fn : Func) (n : Nat) (j : Nat → Value) (l : List (Nat × Value)) : Cfg :=
  ⟨l.foldl (fun t p => t.set p.1 p.2) ((List.range fn.ntmps).map j), ((places (fn.body.getD .skip) [])[n]?).getD []⟩

theorem To.at {P : Program} {f : FuncId} {c : Cfg} {w : World} {R : Ending → World → Prop} {fn : Func} {n : Nat} {l : List (Nat × Value)} (e : c = Cfg.here fn n c.get l)
    (h : ∀ j, To P f (Cfg.here fn n j l) w R) : To P f c w R := by
  rw [e]; exact h _

/-! ### the end -/

def Cfg.ends (c : Cfg) : Bool :=
  match c.k with
  | [] => true
  | .code .ret :: _ => true
  | _ => false

theorem To.ret {P : Program} {f : FuncId} {fn : Func} {c : Cfg} {w : World} {R : Ending → World → Prop} {v : Value}
    (hf : P.funcs[f]? = some fn) (hk : c.ends = true) (hr : (results fn c.t.toArray).run P w = .ok v w) (hR : R (.returned v) w) : To P f c w R := by
  intro cs
  obtain ⟨t, k⟩ := c
  match k, hk with
  | [], _ => exact ⟨.returned v, w, _, hR, .one step_end, rfl, rfl, rfl, rfl, fn, hf, hr⟩
  | .code .ret :: k, _ => exact ⟨.returned v, w, _, hR, .one step_ret, rfl, rfl, rfl, rfl, fn, hf, hr⟩

def resVal (fn : Func) (l : List Value) : Option Value :=
  match fn.results.toList with
  | [] => some (.tuple #[])
  | [.tmp a] => some (l.getD a undef)
  | [.tmp a, .tmp b] => some (.tuple #[l.getD a undef, l.getD b undef])
  | [.tmp a, .tmp b, .tmp c] => some (.tuple #[l.getD a undef, l.getD b undef, l.getD c undef])
  | _ => none

theorem resVal_run {fn : Func} {l : List Value} {v : Value} (h : resVal fn l = some v) (P : Program) (w : World) : (results fn l.toArray).run P w = .ok v w := by
  obtain ⟨rs, hrs⟩ : ∃ rs, fn.results = List.toArray rs := ⟨fn.results.toList, by simp⟩
  unfold resVal at h
  simp only [hrs] at h
  split at h
  · cases h; simp [results, hrs]
  · cases h; simp [results, hrs]
  · cases h; simp [results, hrs]
  · cases h; simp [results, hrs]
  · cases h

theorem To.retv {P : Program} {f : FuncId} {fn : Func} {c : Cfg} {w : World} {R : Ending → World → Prop} {v : Value}
    (hf : P.funcs[f]? = some fn) (hk : c.ends = true) (hr : resVal fn c.t = some v) (hR : R (.returned v) w) : To P f c w R :=
  To.ret hf hk (resVal_run hr P w) hR

end Go.Sx
