/- A region whose order is open: what nobody in it turns may be looked at first. Of this session's own; no statement about the program. -/
import Derived.Test.YtkddomellpldjaaSxMore
import Derived.OrdersHeld
namespace Go.Sx
open Go

theorem wrap_i64 {e : Int} (h1 : -9223372036854775808 ≤ e) (h2 : e ≤ 9223372036854775807) : IntKind.i64.wrap e = e := IntWalk.i64_in e ⟨h1, h2⟩
theorem wrap_u64 {e : Int} (h1 : 0 ≤ e) (h2 : e ≤ 18446744073709551615) : IntKind.u64.wrap e = e := by rw [IntKind.wrap_u64]; omega
theorem wrap_u32 {e : Int} (h1 : 0 ≤ e) (h2 : e ≤ 4294967295) : IntKind.u32.wrap e = e := by rw [IntKind.wrap_u32]; omega
theorem wrap_u16 {e : Int} (h1 : 0 ≤ e) (h2 : e ≤ 65535) : IntKind.u16.wrap e = e := by rw [IntKind.wrap_u16]; omega
theorem wrap_u8 {e : Int} (h1 : 0 ≤ e) (h2 : e ≤ 255) : IntKind.u8.wrap e = e := by rw [IntKind.wrap_u8]; omega

/-- These things are there. -/
def Holds (B : List Res) (w : World) : Prop := ∀ r ∈ B, r.ok w

theorem Sat.holds {E w : World} {L B : List Res} (h : Sat E w L) (idx : List Nat) (e : pickAll idx L = B) : Holds B w := by
  intro r hr
  subst e
  obtain ⟨i, _, hi⟩ := List.mem_filterMap.1 hr
  exact h.ok i hi

def Cfg.draws (c : Cfg) : Bool :=
  match c.k with
  | .code (.region _ _ true) :: _ => true
  | _ => false
def Cfg.rops (c : Cfg) : Array Oper :=
  match c.k with
  | .code (.region _ ops true) :: _ => ops
  | _ => #[]
def Cfg.rnext (c : Cfg) : Cfg := ⟨c.t, c.k.tail⟩

theorem view_load {ρ : Operand → Value} {o : Oper} {t : TypeId} {a : Value} (h : viewOf ρ o = some (.load t a)) : execOp ρ o = (do pure (.value (← Instr.loadAt t a)) : Sem Next) := by
  obtain ⟨dst, op, ty, pos, after, guard⟩ := o
  unfold viewOf at h
  dsimp only at h
  split at h <;> cases h
  rfl

section
variable {P : Program} {f : FuncId} {R : Ending → World → Prop} {ops : Array Oper} {B : List Res} {M : List Nat}

def RegQ (P : Program) (f : FuncId) (k : List Item) (R : Ending → World → Prop) : Exit → Act → World → Prop
  | .normal, a, w => a.defers = [] ∧ To P f ⟨a.tmps.toList, k⟩ w R
  | _, _, _ => False

/-- Has none of these come up? -/
def quiet (M : List Nat) (listed : Array Bool) : Bool := M.all fun s => !(listed.getD s true)
/-- Does s wait for i? -/
def waits (ops : Array Oper) (s i : Nat) : Bool :=
  match ops[s]? with
  | some o => o.after.any fun e => Region.binds .any e && e.on == i
  | none => false

/-- Whatever order is picked: behind each operation the things of B are there, as long as none of M has come up. -/
def WpS (P : Program) (ops : Array Oper) (Q : Exit → Act → World → Prop) (B : List Res) (M : List Nat) : Nat → Array Bool → Act → World → Prop
  | 0, listed, a, w => Region.ready .any ops listed = [] ∧ Q .normal a w
  | fuel + 1, listed, a, w =>
    (Region.ready .any ops listed = [] → Q .normal a w) ∧
    ∀ i ∈ Region.ready .any ops listed, wpOp P ops Q i (fun a' w' => (quiet M (listed.setIfInBounds i true) = true → Holds B w') ∧ WpS P ops Q B M fuel (listed.setIfInBounds i true) a' w') a w

theorem WpS.any {Q : Exit → Act → World → Prop} {M : List Nat} : ∀ (fuel : Nat) (listed : Array Bool) (a : Act) (w : World), WpS P ops Q B M fuel listed a w → wpAny P .any ops Q fuel listed a w
  | 0, _, _, _, h => h
  | fuel + 1, _, _, _, h => ⟨h.1, fun i hi => wpOp_mono (fun a' w' h' => WpS.any fuel _ a' w' h'.2) (h.2 i hi)⟩

theorem quiet_set {M : List Nat} {listed : Array Bool} {j : Nat} (hj : j ∉ M) : quiet M (listed.setIfInBounds j true) = quiet M listed := by
  unfold quiet
  rw [Bool.eq_iff_iff, List.all_eq_true, List.all_eq_true]
  constructor
  · intro h s hs
    have := h s hs
    rwa [getD_set_ne true (show j ≠ s from fun e => hj (by rw [e]; exact hs))] at this
  · intro h s hs
    rw [getD_set_ne true (show j ≠ s from fun e => hj (by rw [e]; exact hs))]
    exact h s hs

theorem quiet_mono {M : List Nat} {listed : Array Bool} {j : Nat} (h : quiet M (listed.setIfInBounds j true) = true) : quiet M listed = true := by
  unfold quiet at *
  rw [List.all_eq_true] at *
  intro s hs
  have := h s hs
  by_cases e : j = s
  · subst e
    simp only [Bool.not_eq_true'] at this ⊢
    rcases Nat.lt_or_ge j listed.size with hlt | hge
    · simp [hlt] at this
    · simp [hge] at this
  · rwa [getD_set_ne true e] at this

/-- One that yields a thing wherever S0 is met may come first, if S0 is met wherever it has not come up yet. -/
theorem WpS.first {Q : Exit → Act → World → Prop} {M : List Nat} {S0 : World → Prop} {I : Array Bool → Prop} {i : Nat} {oi : Oper} {v : Value} (hi : ops[i]? = some oi) (hsel : ∀ (j : Nat) (o : Oper) cs b, ops[j]? = some o → o.op ≠ .select cs b)
    (hQ : ∀ c a w, Q (.panic c) (a.put oi.dst v) w → Q (.panic c) a w)
    (hI : ∀ listed j, I listed → i ∈ Region.ready .any ops listed → j ∈ Region.ready .any ops listed → j ≠ i → I (listed.setIfInBounds j true) ∧ ∀ w, (quiet M ((listed.setIfInBounds j true).setIfInBounds i true) = true → Holds B w) → (quiet M (listed.setIfInBounds j true) = true → Holds B w) ∧ S0 w) :
    ∀ (fuel : Nat) (listed : Array Bool) (a : Act) (w : World),
      (∀ j oj, ops[j]? = some oj → j ≠ i → listed.getD j true = false → (∀ e ∈ oj.after, Region.binds .any e = true → e.on ≠ i) → oi.apart ops oj = true) →
      i ∈ Region.ready .any ops listed → I listed → YieldsIf P ops S0 oi v a → S0 w → (quiet M (listed.setIfInBounds i true) = true → Holds B w) →
      WpS P ops Q B M fuel (listed.setIfInBounds i true) (a.put oi.dst v) w → WpS P ops Q B M (fuel + 1) listed a w := by
  intro fuel
  induction fuel with
  | zero =>
    intro listed a w _ hr _ hy hS hB H
    refine ⟨fun h => (by rw [h] at hr; cases hr), fun j hj => ?_⟩
    by_cases hji : j = i
    · subst hji; exact hy.wpOp hi hS ⟨hB, H⟩
    · have := ready_mono hj hji
      rw [H.1] at this
      cases this
  | succ fuel ih =>
    intro listed a w hfree hr hIl hy hS hB H
    refine ⟨fun h => (by rw [h] at hr; cases hr), fun j hj => ?_⟩
    by_cases hji : j = i
    · subst hji; exact hy.wpOp hi hS ⟨hB, H⟩
    · have h1 := H.2 j (ready_mono hj hji)
      obtain ⟨hjun, oj, hoj, hall⟩ := mem_ready.1 hj
      have hun := (mem_ready.1 hr).1
      have hnot : ∀ e ∈ oj.after, Region.binds .any e = true → e.on ≠ i := fun e he hb heq => by
        have h1 := hall e he hb
        rw [heq] at h1
        rcases Nat.lt_or_ge i listed.size with h' | h'
        · simp [h'] at hun h1; rw [hun] at h1; cases h1
        · simp [Array.getElem?_eq_none h'] at h1
      have h2 := wpOp_putIf hoj (hfree j oj hoj hji hjun hnot) (fun cs b => hsel i oi cs b hi) (fun cs b => hsel j oj cs b hoj) hQ hy h1
      have hfree' : ∀ k ok, ops[k]? = some ok → k ≠ i → (listed.setIfInBounds j true).getD k true = false →
          (∀ e ∈ ok.after, Region.binds .any e = true → e.on ≠ i) → oi.apart ops ok = true := fun k ok hk hki hun hno => by
        refine hfree k ok hk hki ?_ hno
        by_cases hjk : j = k
        · subst hjk; exact hjun
        · rw [getD_set_ne true hjk] at hun; exact hun
      obtain ⟨hI', hstep⟩ := hI listed j hIl hr hj hji
      refine wpOp_mono (fun a' w' h3 => ?_) h2
      have e1 := Array.setIfInBounds_comm (xs := listed) true true hji
      obtain ⟨h4, h5, h6⟩ := h3
      rw [← e1] at h5 h6
      obtain ⟨h7, h8⟩ := hstep w' h5
      exact ⟨h7, ih (listed.setIfInBounds j true) a' w' hfree' (ready_mono hr (Ne.symm hji)) hI' h4 h8 h5 h6⟩

/-- In the midst of a region: what has come up, what the temporaries hold. -/
def Reg (P : Program) (f : FuncId) (ops : Array Oper) (B : List Res) (M : List Nat) (R : Ending → World → Prop) (fuel : Nat) (listed : Array Bool) (c : Cfg) (w : World) : Prop :=
  WpS P ops (RegQ P f c.k R) B M fuel listed ⟨c.t.toArray, []⟩ w

/-- The things of B are there, or it does not matter. -/
def SB (B : List Res) (M : List Nat) (listed : Array Bool) (w : World) : Prop := Holds B w ∨ quiet M listed = false

theorem SB.imp {M : List Nat} {listed : Array Bool} {w : World} (h : SB B M listed w) (hq : quiet M listed = true) : Holds B w := by
  rcases h with h | h
  · exact h
  · rw [hq] at h; cases h
theorem SB.set {M : List Nat} {listed : Array Bool} {w : World} (h : SB B M listed w) (i : Nat) : SB B M (listed.setIfInBounds i true) w := by
  rcases h with h | h
  · exact .inl h
  · right
    cases hq : quiet M (listed.setIfInBounds i true)
    · rfl
    · rw [quiet_mono hq] at h; cases h

theorem To.draw {E : World} {L : List Res} {c : Cfg} {w : World} (B : List Res) (M : List Nat) (n : Nat) (hs : Sat E w L) (hd : c.draws = true) (hm : P.follows .mixedOrders = true) (hn : c.rops.size = n)
    (h : ∀ w', Sat E w' L → Reg P f c.rops B M R n (Array.replicate n false) c.rnext w') : To P f c w R := by
  have h1 := h w.drew hs.drew
  obtain ⟨t, k⟩ := c
  unfold Cfg.draws at hd
  dsimp only at hd
  split at hd
  · rename_i id ops k'
    have hw := wp_region_any (P := P) (ops := ops) (Q := RegQ P f k' R) (id := id) (a := ⟨t.toArray, []⟩) (w := w) hm (WpS.any _ _ _ _ (by
      have e : (Cfg.mk t (.code (.region id ops true) :: k')).rops = ops := rfl
      rw [e] at h1 hn
      rw [hn]
      exact h1))
    intro cs
    obtain ⟨e, a', w', hq, harr⟩ := hw (bs f) k' cs
    cases e with
    | normal =>
      obtain ⟨hdf, hto⟩ := hq
      obtain ⟨e₂, w₂, g, hR, hc, hf, hl⟩ := hto cs
      refine ⟨e₂, w₂, g, hR, ?_, hf, hl⟩
      refine Comes.of_steps harr ?_
      have ea : a' = ⟨a'.tmps.toList.toArray, []⟩ := by cases a'; simp at hdf ⊢; exact hdf
      rw [ea]
      exact hc
    | _ => exact hq.elim
  · cases hd

theorem RegQ_panic (k : List Item) (dst : Option Tmp) (v : Value) : ∀ c a w, RegQ P f k R (.panic c) (Act.put a dst v) w → RegQ P f k R (.panic c) a w := fun _ _ _ h => h.elim

/-- Operation i at temporaries t, alone. -/
def Cfg.only (c : Cfg) (ops : Array Oper) (i : Nat) : Cfg := ⟨c.t, [.inRegion ops [i]]⟩
def Cfg.rput (c : Cfg) (ops : Array Oper) (i : Nat) (v : Value) : Cfg := ⟨put c.t ((ops[i]?).bind (·.dst)) v, c.k⟩

def regOk (ops : Array Oper) (listed : Array Bool) (i : Nat) : Bool := Region.noSelect ops && Region.free .any ops listed i && (Region.ready .any ops listed).contains i

/-- What operation i yields, whatever the world: undef where it is not wanted. -/
def regVal (P : Program) (ops : Array Oper) (t : List Value) (i : Nat) : Option Value :=
  match ops[i]? with
  | some o => match Region.wanted o (yl ops t) with
    | true => opVal P t o
    | false => some undef
  | none => none

/-- It may come first: its thing stands as long as it has not come up. -/
def regOkW (ops : Array Oper) (M : List Nat) (listed : Array Bool) (i : Nat) : Bool := regOk ops listed i && quiet M listed && M.all fun s => waits ops s i
def regOkP (ops : Array Oper) (M : List Nat) (listed : Array Bool) (i : Nat) : Bool := regOk ops listed i && !M.contains i

theorem waits_not {s i : Nat} {listed : Array Bool} (h : waits ops s i = true) (hs : s ∈ Region.ready .any ops listed) (hi : i ∈ Region.ready .any ops listed) : False := by
  obtain ⟨_, o, ho, hall⟩ := mem_ready.1 hs
  have hun := (mem_ready.1 hi).1
  unfold waits at h
  rw [ho] at h
  dsimp only at h
  obtain ⟨e, he, hb⟩ := Array.any_eq_true'.1 h
  simp only [Bool.and_eq_true, beq_iff_eq] at hb
  have := hall e he hb.1
  rw [hb.2] at this
  rcases Nat.lt_or_ge i listed.size with h' | h'
  · simp [h'] at hun this; rw [hun] at this; cases this
  · simp [Array.getElem?_eq_none h'] at this

theorem Reg.takeIf {fuel : Nat} {listed : Array Bool} {c : Cfg} {w : World} (i : Nat) {o : Oper} {v : Value} (ho : ops[i]? = some o) (hi : regOkW ops M listed i = true) (hy : YieldsIf P ops (Holds B) o v ⟨c.t.toArray, []⟩) (hb : SB B M listed w)
    (h : Reg P f ops B M R fuel (listed.setIfInBounds i true) (c.rput ops i v) w) : Reg P f ops B M R (fuel + 1) listed c w := by
  unfold regOkW regOk at hi
  simp only [Bool.and_eq_true, List.all_eq_true] at hi
  obtain ⟨⟨⟨⟨h1, h2⟩, h3⟩, hq⟩, hw⟩ := hi
  have hir : i ∈ Region.ready .any ops listed := by simpa using h3
  have hB := hb.imp hq
  unfold Reg at h
  simp only [Cfg.rput, ho, Option.bind_some] at h
  refine WpS.first (S0 := Holds B) (I := fun l => quiet M l = true) ho (Region.noSelect_spec h1) (RegQ_panic c.k _ _) ?_ fuel listed _ w (Region.free_spec ho h2) hir hq hy hB (fun _ => hB) (by rw [act_put]; exact h)
  intro l j hl hil hjl hji
  have hj : j ∉ M := fun hm => waits_not (hw j hm) hjl hil
  have hiM : i ∉ M := fun hm => waits_not (hw i hm) hil hil
  have q1 : quiet M (l.setIfInBounds j true) = true := by rw [quiet_set hj]; exact hl
  refine ⟨q1, fun w' hb' => ?_⟩
  have := hb' (by rw [quiet_set hiM]; exact q1)
  exact ⟨fun _ => this, this⟩

theorem Reg.takeAll {fuel : Nat} {listed : Array Bool} {c : Cfg} {w : World} (i : Nat) {o : Oper} {v : Value} (ho : ops[i]? = some o) (hi : regOkP ops M listed i = true) (hy : YieldsIf P ops (fun _ => True) o v ⟨c.t.toArray, []⟩) (hb : SB B M listed w)
    (h : Reg P f ops B M R fuel (listed.setIfInBounds i true) (c.rput ops i v) w) : Reg P f ops B M R (fuel + 1) listed c w := by
  unfold regOkP regOk at hi
  simp only [Bool.and_eq_true] at hi
  obtain ⟨⟨⟨h1, h2⟩, h3⟩, hm⟩ := hi
  have hir : i ∈ Region.ready .any ops listed := by simpa using h3
  have hiM : i ∉ M := by simpa using hm
  unfold Reg at h
  simp only [Cfg.rput, ho, Option.bind_some] at h
  refine WpS.first (S0 := fun _ => True) (I := fun _ => True) ho (Region.noSelect_spec h1) (RegQ_panic c.k _ _) ?_ fuel listed _ w (Region.free_spec ho h2) hir trivial hy trivial (fun hq => (hb.set i).imp hq) (by rw [act_put]; exact h)
  intro l j _ hil hjl hji
  exact ⟨trivial, fun w' hb' => ⟨fun hq => hb' (by rw [quiet_set hiM]; exact hq), trivial⟩⟩

theorem Reg.pure {fuel : Nat} {listed : Array Bool} {c : Cfg} {w : World} (i : Nat) (hb : SB B M listed w) (hi : (regOkP ops M listed i && (regVal P ops c.t i).isSome) = true)
    (h : Reg P f ops B M R fuel (listed.setIfInBounds i true) (c.rput ops i ((regVal P ops c.t i).getD undef)) w) : Reg P f ops B M R (fuel + 1) listed c w := by
  simp only [Bool.and_eq_true] at hi
  obtain ⟨hi, hv⟩ := hi
  obtain ⟨v, hv⟩ := Option.isSome_iff_exists.1 hv
  rw [hv, Option.getD_some] at h
  unfold regVal at hv
  split at hv
  · rename_i o ho
    refine Reg.takeAll i ho hi ?_ hb h
    split at hv
    · rename_i hw
      refine .inl ⟨by rw [yl_eq]; exact hw, fun w' _ => ?_⟩
      rw [eval_ev]
      unfold opVal at hv
      split at hv
      · rename_i v' hp; cases hv; exact pureVal_run hp w'
      · cases hv
    · rename_i hw
      cases hv
      exact .inr ⟨by rw [yl_eq]; exact hw, rfl⟩
  · cases hv

/-- Several of them, one behind the other. -/
def regRun (P : Program) (ops : Array Oper) : List Nat → Cfg → Cfg
  | [], c => c
  | i :: is, c => regRun P ops is (c.rput ops i ((regVal P ops c.t i).getD undef))
def regList (is : List Nat) (listed : Array Bool) : Array Bool := is.foldl (fun l i => l.setIfInBounds i true) listed
def regRunOk (P : Program) (ops : Array Oper) (M : List Nat) : List Nat → Array Bool → Cfg → Bool
  | [], _, _ => true
  | i :: is, listed, c => (regOkP ops M listed i && (regVal P ops c.t i).isSome) && regRunOk P ops M is (listed.setIfInBounds i true) (c.rput ops i ((regVal P ops c.t i).getD undef))

theorem Reg.pures (is : List Nat) : ∀ {fuel fuel' : Nat} {listed : Array Bool} {c : Cfg} {w : World}, SB B M listed w → fuel = fuel' + is.length → regRunOk P ops M is listed c = true →
    Reg P f ops B M R fuel' (regList is listed) (regRun P ops is c) w → Reg P f ops B M R fuel listed c w := by
  induction is with
  | nil => intro fuel fuel' listed c w _ hf _ h; simp at hf; subst hf; exact h
  | cons i is ih =>
    intro fuel fuel' listed c w hb hf hok h
    simp only [regRunOk] at hok
    rw [Bool.and_eq_true] at hok
    have hf' : fuel = (fuel' + is.length) + 1 := by simp at hf; omega
    subst hf'
    exact Reg.pure i hb hok.1 (ih (hb.set i) rfl hok.2 h)

/-- A load from a thing that is there throughout. -/
theorem Reg.load {fuel : Nat} {listed : Array Bool} {c : Cfg} {w : World} (i m : Nat) {t b off : Nat} {vs : List Value} {e : TypeId} {v : Value} (hb : SB B M listed w) (hm : B[m]? = some (cel b e vs)) (hi : regOkW ops M listed i = true)
    (hv : (c.only ops i).view = some (.load t (.pointer (some ⟨b, off, none⟩)))) (hl : loadV P t vs off = some v)
    (h : Reg P f ops B M R fuel (listed.setIfInBounds i true) (c.rput ops i v) w) : Reg P f ops B M R (fuel + 1) listed c w := by
  obtain ⟨o, ho, hvo⟩ := view_elim hv
  obtain ⟨ops', i', r, k, hk, hoi, hw, _⟩ := cur_elim ho
  simp only [Cfg.only, List.cons.injEq, Item.inRegion.injEq] at hk
  obtain ⟨⟨rfl, rfl, rfl⟩, rfl⟩ := hk
  refine Reg.takeIf i hoi hi (.inl ⟨by rw [yl_eq]; exact hw, fun w' hw' => ?_⟩) hb h
  rw [eval_ev]
  have hld := run_loadAt_blk (P := P) (hw' _ (List.mem_of_getElem? hm)) hl
  have hx := view_load hvo
  rw [show ev c.t = ev (c.only ops i).t from rfl, hx]
  simp [hld]

/-- A load of one cell of what was there from the beginning. -/
theorem Reg.loadOld {fuel : Nat} {listed : Array Bool} {c : Cfg} {w : World} (i m : Nat) {t : Nat} {a : Addr} {v : Value} {W : World} (hb : SB B M listed w) (hm : B[m]? = some (old W)) (hc : W.cell? a = some v) (hi : regOkW ops M listed i = true)
    (hv : (c.only ops i).view = some (.load t (.pointer (some a)))) (ha : ((P.underlying t).isSome && !isAggB P t) = true)
    (h : Reg P f ops B M R fuel (listed.setIfInBounds i true) (c.rput ops i v) w) : Reg P f ops B M R (fuel + 1) listed c w := by
  obtain ⟨o, ho, hvo⟩ := view_elim hv
  obtain ⟨ops', i', r, k, hk, hoi, hw, _⟩ := cur_elim ho
  simp only [Cfg.only, List.cons.injEq, Item.inRegion.injEq] at hk
  obtain ⟨⟨rfl, rfl, rfl⟩, rfl⟩ := hk
  refine Reg.takeIf i hoi hi (.inl ⟨by rw [yl_eq]; exact hw, fun w' hw' => ?_⟩) hb h
  rw [eval_ev]
  have hold := hw' _ (List.mem_of_getElem? hm)
  have hcell : w'.cell? a = some v := (World.cell?_of_block (hold.2 a.block (World.block_lt_of_cell? W a hc))).trans hc
  simp only [Bool.and_eq_true, Option.isSome_iff_exists] at ha
  obtain ⟨⟨d, hd⟩, ha⟩ := ha
  unfold isAggB at ha
  rw [hd] at ha
  have hld : (Instr.loadAt t (.pointer (some a))).run P w' = .ok v w' := by
    unfold Instr.loadAt Instr.sureAddr loadVar
    simp only [Sem.run_bind, Sem.run_pure, Result.andThen_ok, run_isAgg hd]
    cases d <;> simp_all
  have hx := view_load hvo
  rw [show ev c.t = ev (c.only ops i).t from rfl, hx]
  simp [hld]

theorem run_loadAt_cell {P : Program} {w : World} {t : TypeId} {a : Addr} {v : Value} (hc : w.cell? a = some v) (ha : ((P.underlying t).isSome && !isAggB P t) = true) : (Instr.loadAt t (.pointer (some a))).run P w = .ok v w := by
  simp only [Bool.and_eq_true, Option.isSome_iff_exists] at ha
  obtain ⟨⟨d, hd⟩, ha⟩ := ha
  unfold isAggB at ha
  rw [hd] at ha
  unfold Instr.loadAt Instr.sureAddr loadVar
  simp only [Sem.run_bind, Sem.run_pure, Result.andThen_ok, run_isAgg hd]
  cases d <;> simp_all

theorem Reg.loadSeg {fuel : Nat} {listed : Array Bool} {c : Cfg} {w : World} (i m k : Nat) {t b o off cap e : Nat} {xs : List Value} {v : Value} (hb : SB B M listed w) (hm : B[m]? = some (seg (some ⟨b, o, none⟩) cap e xs)) (hi : regOkW ops M listed i = true)
    (hv : (c.only ops i).view = some (.load t (.pointer (some ⟨b, off, none⟩)))) (ho : off = o + k) (hk : xs[k]? = some v) (ha : ((P.underlying t).isSome && !isAggB P t) = true)
    (h : Reg P f ops B M R fuel (listed.setIfInBounds i true) (c.rput ops i v) w) : Reg P f ops B M R (fuel + 1) listed c w := by
  obtain ⟨o', ho', hvo⟩ := view_elim hv
  obtain ⟨ops', i', r, kk, hkk, hoi, hw, _⟩ := cur_elim ho'
  simp only [Cfg.only, List.cons.injEq, Item.inRegion.injEq] at hkk
  obtain ⟨⟨rfl, rfl, rfl⟩, rfl⟩ := hkk
  refine Reg.takeIf i hoi hi (.inl ⟨by rw [yl_eq]; exact hw, fun w' hw' => ?_⟩) hb h
  rw [eval_ev]
  have hcell : w'.cell? ⟨b, off, none⟩ = some v := by
    rcases hw' _ (List.mem_of_getElem? hm) with ⟨h0, _, _⟩ | ⟨g, o2, cur, he, _, hg, r⟩
    · cases h0
    · cases he
      rw [cell_blk hg, ho]
      exact r k v hk
  have hx := view_load hvo
  rw [show ev c.t = ev (c.only ops i).t from rfl, hx]
  simp [run_loadAt_cell hcell ha]

theorem Holds.rowSeg {w : World} {a : Option Addr} {cap e : Nat} {xs : List Value} (h : (row a cap e xs).ok w) : (seg a cap e xs).ok w := by
  have hok' : w.ownsRow 0 e 1 (.slice a xs.length cap) xs.length xs := h
  rcases hok'.2 with ⟨he, h0⟩ | ⟨g, cap', cur, he, _, hg, hc, _, hsz, ht⟩
  · injection he with e1 e2 e3
    exact .inl ⟨e1, e3, List.eq_nil_of_length_eq_zero h0⟩
  · cases he
    refine .inr ⟨g, 0, cur, rfl, hc, hg, fun j u hj => ?_⟩
    rw [← ht, List.getElem?_take] at hj
    split at hj
    · simpa using hj
    · cases hj

/-- What yields one thing wherever the things of B are there. -/
theorem Reg.val {fuel : Nat} {listed : Array Bool} {c : Cfg} {w : World} (i : Nat) {v : Value} (hb : SB B M listed w) (hi : regOkP ops M listed i = true) (hcur : ((c.only ops i).cur).isSome = true) (hy : ∀ w', Val P (c.only ops i) w' v)
    (h : Reg P f ops B M R fuel (listed.setIfInBounds i true) (c.rput ops i v) w) : Reg P f ops B M R (fuel + 1) listed c w := by
  obtain ⟨o, ho⟩ := Option.isSome_iff_exists.1 hcur
  obtain ⟨ops', i', r, k, hk, hoi, hw, _⟩ := cur_elim ho
  simp only [Cfg.only, List.cons.injEq, Item.inRegion.injEq] at hk
  obtain ⟨⟨rfl, rfl, rfl⟩, rfl⟩ := hk
  refine Reg.takeAll i hoi hi (.inl ⟨by rw [yl_eq]; exact hw, fun w' _ => ?_⟩) hb h
  rw [eval_ev]
  obtain ⟨o', ho', hr⟩ := hy w'
  rw [ho] at ho'
  cases ho'
  exact hr

/-- Any operation that turns no memory, by its own step: what it yields wherever the things of B are there. -/
theorem Reg.look {fuel : Nat} {listed : Array Bool} {c : Cfg} {w : World} (i : Nat) (v : Value) (hb : SB B M listed w) (hi : regOkW ops M listed i = true) (hcur : ((c.only ops i).cur).isSome = true)
    (hy : ∀ w', Holds B w' → ∀ o, (c.only ops i).cur = some o → (execOp (ev c.t) o).run P w' = .ok (.value v) w')
    (h : Reg P f ops B M R fuel (listed.setIfInBounds i true) (c.rput ops i v) w) : Reg P f ops B M R (fuel + 1) listed c w := by
  obtain ⟨o, ho⟩ := Option.isSome_iff_exists.1 hcur
  obtain ⟨ops', i', r, k, hk, hoi, hw, _⟩ := cur_elim ho
  simp only [Cfg.only, List.cons.injEq, Item.inRegion.injEq] at hk
  obtain ⟨⟨rfl, rfl, rfl⟩, rfl⟩ := hk
  exact Reg.takeIf i hoi hi (.inl ⟨by rw [yl_eq]; exact hw, fun w' hw' => by rw [eval_ev]; exact hy w' hw' o ho⟩) hb h

/-- One operation, carried out; then the things of B are there again. -/
theorem wpOp_one {c : Cfg} {w : World} {i : Nat} {Q : Exit → Act → World → Prop} {K : Act → World → Prop} (h : One P (c.only ops i) w fun v w' => K ⟨(c.rput ops i v).t.toArray, []⟩ w') : wpOp P ops Q i K ⟨c.t.toArray, []⟩ w := by
  obtain ⟨o, ho, h⟩ := h
  obtain ⟨ops', i', r, k, hk, hoi, hw, _⟩ := cur_elim ho
  simp only [Cfg.only, List.cons.injEq, Item.inRegion.injEq] at hk
  obtain ⟨⟨rfl, rfl, rfl⟩, rfl⟩ := hk
  unfold wpOp
  simp only [hoi]
  have hw' : Region.wanted o (yielded ops c.t.toArray) = true := by rw [yl_eq]; exact hw
  simp only [hw', if_true]
  refine .inl ?_
  unfold Oper.wp
  rw [eval_ev]
  have hput : ∀ v, (Act.put ⟨c.t.toArray, []⟩ o.dst v) = ⟨(c.rput ops i v).t.toArray, []⟩ := fun v => by rw [act_put]; simp [Cfg.rput, hoi]
  unfold OneOp at h
  simp only [Cfg.only] at h
  split at h
  · rename_i v w' hr; rw [hr, Oper.upon_value, hput]; exact h
  · rename_i w' hr; rw [hr, Oper.upon_skip, hput]; exact h
  · rename_i g args w₁ hr
    rw [hr, Oper.upon_enter]
    refine h.mono ?_
    rintro e w' ⟨v, rfl, hk⟩
    show K _ _
    rw [hput]; exact hk
  · exact h.elim

theorem _root_.Go.Sx.One.mono {P : Program} {c : Cfg} {w : World} {K K' : Value → World → Prop} (h : One P c w K) (hk : ∀ v w, K v w → K' v w) : One P c w K' := by
  obtain ⟨o, ho, h⟩ := h
  refine ⟨o, ho, ?_⟩
  unfold OneOp at *
  split at h
  · exact hk _ _ h
  · exact hk _ _ h
  · exact h.mono fun e w' ⟨v, he, hv⟩ => ⟨v, he, hk _ _ hv⟩
  · exact h.elim

theorem WpS.all {Q : Exit → Act → World → Prop} {rs : List Nat} {fuel : Nat} {listed : Array Bool} {a : Act} {w : World} (hr : Region.ready .any ops listed = rs) (hne : rs ≠ [])
    (h : ∀ i ∈ rs, wpOp P ops Q i (fun a' w' => (quiet M (listed.setIfInBounds i true) = true → Holds B w') ∧ WpS P ops Q B M fuel (listed.setIfInBounds i true) a' w') a w) : WpS P ops Q B M (fuel + 1) listed a w :=
  ⟨fun h0 => absurd (hr ▸ h0) hne, hr ▸ h⟩

theorem WpS.done {Q : Exit → Act → World → Prop} {listed : Array Bool} {a : Act} {w : World} (hr : Region.ready .any ops listed = []) (h : Q .normal a w) : ∀ fuel, WpS P ops Q B M fuel listed a w
  | 0 => ⟨hr, h⟩
  | _ + 1 => ⟨fun _ => h, by rw [hr]; simp⟩

theorem Reg.step {fuel : Nat} {listed : Array Bool} {c : Cfg} {w : World} (i : Nat) (hr : Region.ready .any ops listed = [i])
    (h : One P (c.only ops i) w fun v w' => SB B M (listed.setIfInBounds i true) w' ∧ Reg P f ops B M R fuel (listed.setIfInBounds i true) (c.rput ops i v) w') : Reg P f ops B M R (fuel + 1) listed c w := by
  refine WpS.all hr (by simp) ?_
  intro j hj
  simp at hj
  subst hj
  exact wpOp_one (h.mono fun v w' h => ⟨fun hq => h.1.imp hq, h.2⟩)

theorem Reg.step2 {fuel : Nat} {listed : Array Bool} {c : Cfg} {w : World} (i j : Nat) (hr : Region.ready .any ops listed = [i, j])
    (h1 : One P (c.only ops i) w fun v w' => SB B M (listed.setIfInBounds i true) w' ∧ Reg P f ops B M R fuel (listed.setIfInBounds i true) (c.rput ops i v) w')
    (h2 : One P (c.only ops j) w fun v w' => SB B M (listed.setIfInBounds j true) w' ∧ Reg P f ops B M R fuel (listed.setIfInBounds j true) (c.rput ops j v) w') : Reg P f ops B M R (fuel + 1) listed c w := by
  refine WpS.all hr (by simp) ?_
  intro k hk
  simp at hk
  rcases hk with rfl | rfl
  · exact wpOp_one (h1.mono fun v w' h => ⟨fun hq => h.1.imp hq, h.2⟩)
  · exact wpOp_one (h2.mono fun v w' h => ⟨fun hq => h.1.imp hq, h.2⟩)

theorem Reg.known {fuel : Nat} {listed : Array Bool} {c : Cfg} {w : World} (s : Nat) {v : Value} (v' : Value) (hs : c.t[s]? = some v) (e : v = v') (h : Reg P f ops B M R fuel listed (c.set s v') w) : Reg P f ops B M R fuel listed c w := by
  subst e
  rw [set_get_same c s v hs] at h
  exact h

theorem Reg.split {fuel : Nat} {listed : Array Bool} {c : Cfg} {w : World} (s : Nat) {t : Bool} (hs : c.t[s]? = some (.bool t))
    (ht : t = true → Reg P f ops B M R fuel listed (c.set s (.bool true)) w) (hf : t = false → Reg P f ops B M R fuel listed (c.set s (.bool false)) w) : Reg P f ops B M R fuel listed c w := by
  cases t
  · exact Reg.known s _ hs rfl (hf rfl)
  · exact Reg.known s _ hs rfl (ht rfl)

theorem Reg.isTrue {fuel : Nat} {listed : Array Bool} {c : Cfg} {w : World} (s : Nat) {t : Bool} (hs : c.t[s]? = some (.bool t)) (e : t = true) (h : Reg P f ops B M R fuel listed (c.set s (.bool true)) w) : Reg P f ops B M R fuel listed c w :=
  Reg.known s _ hs (by rw [e]) h
theorem Reg.isFalse {fuel : Nat} {listed : Array Bool} {c : Cfg} {w : World} (s : Nat) {t : Bool} (hs : c.t[s]? = some (.bool t)) (e : t = false) (h : Reg P f ops B M R fuel listed (c.set s (.bool false)) w) : Reg P f ops B M R fuel listed c w :=
  Reg.known s _ hs (by rw [e]) h

theorem Reg.done {fuel : Nat} {listed : Array Bool} {c : Cfg} {w : World} (hr : Region.ready .any ops listed = []) (h : To P f c w R) : Reg P f ops B M R fuel listed c w := by
  refine WpS.done hr ?_ fuel
  exact ⟨rfl, by simpa using h⟩
end
end Go.Sx
