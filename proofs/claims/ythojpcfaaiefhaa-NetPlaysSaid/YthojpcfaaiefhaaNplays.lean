import Derived.Test.YthojpcfaaiefhaaProg
import Derived.Test.YthojpcfaaiefhaaSxExt
import Derived.Test.YthojpcfaaiefhaaNref
set_option linter.unusedSimpArgs false
set_option linter.unusedVariables false
namespace Go.Proofs.Ythojpcfaaiefhaa
open Go Go.Sx
set_option linter.unusedSimpArgs false
set_option maxHeartbeats 0
set_option maxRecDepth 20000

/-- What is known of the deeds. -/
def Deeds17 (W : World) (al : Option Addr) (len : Nat) : Prop :=
  len = 0 ∨ ∃ b off, al = some ⟨b, off, none⟩ ∧ ∀ i, i < len → ∃ (kd f t : Int) (s : ByteArray) (near : Bool), 0 ≤ kd ∧ kd ≤ 255 ∧ W.cell? ⟨b, off + i * 5, none⟩ = some (.int .u8 kd) ∧ W.cell? ⟨b, off + i * 5 + 1, none⟩ = some (.int .i64 f)
    ∧ W.cell? ⟨b, off + i * 5 + 2, none⟩ = some (.int .i64 t) ∧ W.cell? ⟨b, off + i * 5 + 3, none⟩ = some (.string s) ∧ W.cell? ⟨b, off + i * 5 + 4, none⟩ = some (.bool near)

def npKnow (W : World) (d R : Nat) (nb xb : Nat) (B C : Nat → Nat) (A : Nat → Option Addr) (K : Nat → Nat) (X : Nat → List Value) : List Res :=
  [cel nb 119 (netCells d B), lanes 25 106 R B C X, cel xb 123 (qCells d R A K X), segs25 A K X, old W]

/-- Texts, no more than there is room for. -/
def Strs (X : Nat → List Value) (R : Nat) : Prop := ∀ i, ∃ ys : List ByteArray, X i = ys.map Value.string ∧ ys.length ≤ R

theorem Strs.le {X : Nat → List Value} {R : Nat} (h : Strs X R) (hR : R ≤ 16) (i : Nat) : (X i).length ≤ 1000 := by
  obtain ⟨ys, e, hl⟩ := h i
  rw [e, List.length_map]; omega

theorem Strs.put {X : Nat → List Value} {R : Nat} (h : Strs X R) (k : Nat) (ys : List ByteArray) (hy : ys.length ≤ R) : Strs (putAt X k (ys.map Value.string)) R := by
  intro i
  unfold putAt
  split
  · exact ⟨ys, rfl, hy⟩
  · exact h i

theorem isLane_nat {d : Nat} {f t : Int} (h : isLane d f t) : ∃ g u : Nat, f = g ∧ t = u ∧ g * 5 + u < 25 ∨ 4 < d := by
  obtain ⟨h1, h2, h3, h5, h6⟩ := h
  refine ⟨f.toNat, t.toNat, ?_⟩
  by_cases h4 : 4 < d
  · exact .inr h4
  · exact .inl ⟨by omega, by omega, by omega⟩

theorem QLen_atI (xb d : Nat) (room : Int) (f t : Int) (A : Nat → Option Addr) (K : Nat → Nat) (X : Nat → List Value) (h4 : d ≤ 4) : Trip Try.prog 52 [.pointer (some ⟨xb, 0, none⟩), .int .i64 f, .int .i64 t] [cel xb 123 (qCells d room A K X)]
    (fun v l => v = .int .i64 (lenAt d X f t) ∧ l = [cel xb 123 (qCells d room A K X)]) := by
  by_cases h : isLane d f t
  · obtain ⟨h1, h2, h3, h5, h6⟩ := h
    have := QLen_at xb d room f.toNat t.toNat A K X (by omega)
    rwa [show ((f.toNat : Nat) : Int) = f by omega, show ((t.toNat : Nat) : Int) = t by omega] at this
  · have := QLen_no xb d room f t A K X h
    unfold lenAt
    rw [if_neg h]
    exact this

def npBase (al : Option Addr) (len cap nb xb k : Nat) : List (Nat × Value) :=
  [(3, .slice al len cap), (9, .bool true), (10, .pointer (some ⟨nb, 0, none⟩)), (12, .pointer (some ⟨xb, 0, none⟩)), (13, .int .i64 k)]

theorem NP_after (W : World) (al : Option Addr) (len cap : Nat) (d R nb xb b1 : Nat) (B C : Nat → Nat) (A : Nat → Option Addr) (K : Nat → Nat) (X : Nat → List Value) (hd1 : 1 ≤ d) (hd4 : d ≤ 4) (hR : R ≤ 16) (k : Nat) (hk : k < 70) (f t : Int) (kv sv nv : Value) (hX : Strs X R)
    (fin : ∀ (A : Nat → Option Addr) (K : Nat → Nat) (X : Nat → List Value) (j : Nat → Value) (w : World), Strs X R → Sat W w (npKnow W d R nb xb B C A K X) → To Try.prog 7 (Cfg.here Try.f7 18 j [(3, .slice al len cap), (9, .bool true), (10, .pointer (some ⟨nb, 0, none⟩)), (12, .pointer (some ⟨xb, 0, none⟩)), (13, .int .i64 (k + 1))]) w (LawEnd W)) (j : Nat → Value) (w : World)
    (hs : Sat W w (cel b1 83 [kv, .int .i64 f, .int .i64 t, sv, nv] :: npKnow W d R nb xb B C A K X)) :
    To Try.prog 7 (Cfg.here Try.f7 27 j [(3, .slice al len cap), (9, .bool true), (10, .pointer (some ⟨nb, 0, none⟩)), (12, .pointer (some ⟨xb, 0, none⟩)), (13, .int .i64 k), (14, .pointer (some ⟨b1, 0, none⟩)), (15, .bool true)]) w (LawEnd W) := by
  unfold npKnow at hs
  have hXl := hX.le hR
  have c1 := NLenS_at nb R d f t B C X (by omega)
  have c2 := QLen_atI xb d R f t A K X hd4
  have c3 := NAllS nb R d B C X (by omega) hXl
  have c4 := QAll xb d R A K X hd1 hd4 hXl
  refine To.run 1 ?_
  refine To.draw [cel b1 83 [kv, Value.int IntKind.i64 f, Value.int IntKind.i64 t, sv, nv], cel nb 119 (netCells (↑d : Int) B), cel xb 123 (qCells (↑d : Int) (↑R : Int) A K X), old W] 24 hs (by kernel_rfl) (by kernel_rfl) (by kernel_rfl) fun w1 hs1 => ?_
  clear hs
  have hb1 := Sat.holds hs1 [0, 1, 3, 5] rfl
  refine Reg.pures [0, 1, 2, 3, 4, 6, 9, 10, 12] (fuel' := 15) hb1 rfl (by kernel_rfl) ?_
  refine Reg.load 5 0 (t := 3) (off := 1) (v := Value.int IntKind.i64 f) hb1 rfl (by kernel_rfl) (by kernel_rfl) (by kernel_rfl) ?_
  refine Reg.load 7 0 (t := 3) (off := 2) (v := Value.int IntKind.i64 t) hb1 rfl (by kernel_rfl) (by kernel_rfl) (by kernel_rfl) ?_
  refine Reg.load 11 0 (t := 3) (off := 1) (v := Value.int IntKind.i64 f) hb1 rfl (by kernel_rfl) (by kernel_rfl) (by kernel_rfl) ?_
  refine Reg.load 13 0 (t := 3) (off := 2) (v := Value.int IntKind.i64 t) hb1 rfl (by kernel_rfl) (by kernel_rfl) (by kernel_rfl) ?_
  refine Reg.step 8 (by kernel_rfl) (One.call 6 [1, 2] [0, 3, 4, 5] (g := 51) (args := [Value.pointer (some { block := nb, off := 0 }), Value.int IntKind.i64 f, Value.int IntKind.i64 t]) (by kernel_rfl) hs1 (c1) (by decide) rfl ?_)
  rintro _ _ w2 ⟨rfl, rfl⟩ hs2
  simp only [pickAll, List.filterMap_cons, List.filterMap_nil, List.getElem?_cons_zero, List.getElem?_cons_succ, List.cons_append, List.nil_append, List.drop_succ_cons, List.drop_zero] at hs2
  clear hs1
  have hb2 := Sat.holds hs2 [2, 0, 3, 5] (B := [cel b1 83 [kv, Value.int IntKind.i64 f, Value.int IntKind.i64 t, sv, nv], cel nb 119 (netCells (↑d : Int) B), cel xb 123 (qCells (↑d : Int) (↑R : Int) A K X), old W]) rfl
  clear hb1
  refine ⟨hb2, ?_⟩
  refine Reg.step 14 (by kernel_rfl) (One.call 6 [3] [0, 1, 2, 4, 5] (g := 52) (args := [Value.pointer (some { block := xb, off := 0 }), Value.int IntKind.i64 f, Value.int IntKind.i64 t]) (by kernel_rfl) hs2 (c2) (by decide) rfl ?_)
  rintro _ _ w3 ⟨rfl, rfl⟩ hs1
  simp only [pickAll, List.filterMap_cons, List.filterMap_nil, List.getElem?_cons_zero, List.getElem?_cons_succ, List.cons_append, List.nil_append, List.drop_succ_cons, List.drop_zero] at hs1
  clear hs2
  have hb1 := Sat.holds hs1 [3, 1, 0, 5] (B := [cel b1 83 [kv, Value.int IntKind.i64 f, Value.int IntKind.i64 t, sv, nv], cel nb 119 (netCells (↑d : Int) B), cel xb 123 (qCells (↑d : Int) (↑R : Int) A K X), old W]) rfl
  clear hb2
  refine ⟨hb1, ?_⟩
  refine Reg.pures [15, 16, 17] (fuel' := 6) hb1 rfl (by kernel_rfl) ?_
  refine Reg.isFalse 200 (t := (↑(lenAt (↑d : Int) X f t) : Int) != (↑(lenAt (↑d : Int) X f t) : Int)) (by kernel_rfl) (by simp) ?_
  refine Reg.pures [18, 20] (fuel' := 4) hb1 rfl (by kernel_rfl) ?_
  refine Reg.step 19 (by kernel_rfl) (One.call 6 [1, 2] [0, 3, 4, 5] (g := 53) (args := [Value.pointer (some { block := nb, off := 0 })]) (by kernel_rfl) hs1 (c3) (by decide) rfl ?_)
  rintro _ _ w4 ⟨rfl, rfl⟩ hs2
  simp only [pickAll, List.filterMap_cons, List.filterMap_nil, List.getElem?_cons_zero, List.getElem?_cons_succ, List.cons_append, List.nil_append, List.drop_succ_cons, List.drop_zero] at hs2
  clear hs1
  have hb2 := Sat.holds hs2 [3, 0, 2, 5] (B := [cel b1 83 [kv, Value.int IntKind.i64 f, Value.int IntKind.i64 t, sv, nv], cel nb 119 (netCells (↑d : Int) B), cel xb 123 (qCells (↑d : Int) (↑R : Int) A K X), old W]) rfl
  clear hb1
  refine ⟨hb2, ?_⟩
  refine Reg.step 21 (by kernel_rfl) (One.call 6 [2] [0, 1, 3, 4, 5] (g := 54) (args := [Value.pointer (some { block := xb, off := 0 })]) (by kernel_rfl) hs2 (c4) (by decide) rfl ?_)
  rintro _ _ w5 ⟨rfl, rfl⟩ hs1
  simp only [pickAll, List.filterMap_cons, List.filterMap_nil, List.getElem?_cons_zero, List.getElem?_cons_succ, List.cons_append, List.nil_append, List.drop_succ_cons, List.drop_zero] at hs1
  clear hs2
  have hb1 := Sat.holds hs1 [3, 1, 0, 5] (B := [cel b1 83 [kv, Value.int IntKind.i64 f, Value.int IntKind.i64 t, sv, nv], cel nb 119 (netCells (↑d : Int) B), cel xb 123 (qCells (↑d : Int) (↑R : Int) A K X), old W]) rfl
  clear hb2
  refine ⟨hb1, ?_⟩
  refine Reg.pures [22, 23] (fuel' := 0) hb1 rfl (by kernel_rfl) ?_
  refine Reg.done (by kernel_rfl) ?_
  clear hb1
  refine To.isFalse 206 (t := (↑(sumTo (↑d : Int) X 25) : Int) != (↑(sumTo (↑d : Int) X 25) : Int)) (by kernel_rfl) (by simp) ?_
  refine To.run 6 ?_
  refine To.known 71 (v := .int .i64 (IntKind.i64.wrap ((↑k : Int) + 1))) (.int .i64 ((↑k : Int) + 1)) (by kernel_rfl) (by rw [wrap_i64 (by omega) (by omega)]) ?_
  refine To.run 2 ?_
  refine To.run 1 ?_
  refine To.at (fn := Try.f7) (n := 18) (l := [(3, Value.slice al len cap), (9, Value.bool true), (10, Value.pointer (some { block := nb, off := 0 })), (12, Value.pointer (some { block := xb, off := 0 })), (13, Value.int IntKind.i64 ((↑k : Int) + 1))]) (by kernel_rfl) fun j => ?_
  exact fin A K X _ _ hX (hs1.get [1, 2, 0, 4, 5] (by decide) rfl)

theorem NP_mid (W : World) (al : Option Addr) (len cap : Nat) (d R nb xb b1 : Nat) (B C : Nat → Nat) (A : Nat → Option Addr) (K : Nat → Nat) (X : Nat → List Value) (hd1 : 1 ≤ d) (hd4 : d ≤ 4) (hR1 : 1 ≤ R) (hR : R ≤ 16) (k : Nat) (hk : k < 70) (kd f t : Int) (hk0 : 0 ≤ kd) (hk1 : kd ≤ 255) (s : ByteArray) (nv : Value) (hX : Strs X R)
    (fin : ∀ (A : Nat → Option Addr) (K : Nat → Nat) (X : Nat → List Value) (j : Nat → Value) (w : World), Strs X R → Sat W w (npKnow W d R nb xb B C A K X) → To Try.prog 7 (Cfg.here Try.f7 18 j [(3, .slice al len cap), (9, .bool true), (10, .pointer (some ⟨nb, 0, none⟩)), (12, .pointer (some ⟨xb, 0, none⟩)), (13, .int .i64 (k + 1))]) w (LawEnd W)) (j : Nat → Value) (w : World)
    (hs : Sat W w (cel b1 83 [.int .u8 kd, .int .i64 f, .int .i64 t, .string s, nv] :: npKnow W d R nb xb B C A K X)) :
    To Try.prog 7 (Cfg.here Try.f7 23 j [(3, .slice al len cap), (9, .bool true), (10, .pointer (some ⟨nb, 0, none⟩)), (12, .pointer (some ⟨xb, 0, none⟩)), (13, .int .i64 k), (14, .pointer (some ⟨b1, 0, none⟩))]) w (LawEnd W) := by
  unfold npKnow at hs
  refine To.run 8 ?_
  refine To.one (One.load 0 (t := 5) (off := 0) (v := Value.int IntKind.u8 kd) hs rfl (by kernel_rfl) (by kernel_rfl) ?_)
  refine To.run 8 ?_
  refine To.split 106 (t := kd.tmod 8 == 4) (by kernel_rfl) (fun k4 => ?_) (fun k4 => ?_)
  · by_cases h : isLane d f t
    · have hl := h
      obtain ⟨a1, a2, a3, a4, a5⟩ := hl
      obtain ⟨g, rfl⟩ : ∃ g : Nat, f = g := ⟨f.toNat, by omega⟩
      obtain ⟨u, rfl⟩ : ∃ u : Nat, t = u := ⟨t.toNat, by omega⟩
      have eln : ln g u = g * 5 + u := by unfold ln; omega
      obtain ⟨ys, hy, hyl⟩ := hX (g * 5 + u)
      cases ys with
      | nil =>
        have c1 := NTakeS_none nb R d g u B C X (by omega) h (by rw [eln, hy]; rfl)
        have c2 := QTake_none xb d R g u A K X (by omega) h (by rw [hy]; rfl)
        refine To.run 5 ?_
        refine To.one (One.load 0 (t := 3) (off := 1) (v := Value.int IntKind.i64 (↑g : Int)) hs rfl (by kernel_rfl) (by kernel_rfl) ?_)
        refine To.run 1 ?_
        refine To.one (One.load 0 (t := 3) (off := 2) (v := Value.int IntKind.i64 (↑u : Int)) hs rfl (by kernel_rfl) (by kernel_rfl) ?_)
        refine To.one (One.call 6 [1, 2] [0, 3, 4, 5] (g := 42) (args := [Value.pointer (some { block := nb, off := 0 }), Value.int IntKind.i64 (↑g : Int), Value.int IntKind.i64 (↑u : Int)]) (by kernel_rfl) hs (c1) (by decide) rfl ?_)
        rintro _ _ w1 ⟨rfl, rfl⟩ hs1
        simp only [pickAll, List.filterMap_cons, List.filterMap_nil, List.getElem?_cons_zero, List.getElem?_cons_succ, List.cons_append, List.nil_append, List.drop_succ_cons, List.drop_zero] at hs1
        clear hs
        refine To.run 10 ?_
        refine To.one (One.load 2 (t := 3) (off := 1) (v := Value.int IntKind.i64 (↑g : Int)) hs1 rfl (by kernel_rfl) (by kernel_rfl) ?_)
        refine To.run 1 ?_
        refine To.one (One.load 2 (t := 3) (off := 2) (v := Value.int IntKind.i64 (↑u : Int)) hs1 rfl (by kernel_rfl) (by kernel_rfl) ?_)
        refine To.one (One.call 6 [3, 4] [0, 1, 2, 5] (g := 43) (args := [Value.pointer (some { block := xb, off := 0 }), Value.int IntKind.i64 (↑g : Int), Value.int IntKind.i64 (↑u : Int)]) (by kernel_rfl) hs1 (c2) (by decide) rfl ?_)
        rintro _ _ w2 ⟨rfl, rfl⟩ hs2
        simp only [pickAll, List.filterMap_cons, List.filterMap_nil, List.getElem?_cons_zero, List.getElem?_cons_succ, List.cons_append, List.nil_append, List.drop_succ_cons, List.drop_zero] at hs2
        clear hs1
        refine To.run 18 ?_
        refine To.at (fn := Try.f7) (n := 27) (l := [(3, Value.slice al len cap), (9, Value.bool true), (10, Value.pointer (some { block := nb, off := 0 })), (12, Value.pointer (some { block := xb, off := 0 })), (13, Value.int IntKind.i64 (↑k : Int)), (14, Value.pointer (some { block := b1, off := 0 })), (15, Value.bool true)]) (by kernel_rfl) fun j => ?_
        exact NP_after W al len cap d R nb xb b1 B C _ _ _ hd1 hd4 hR k hk _ _ _ _ _ (hX) fin _ _ (hs2.get [4, 2, 3, 0, 1, 5] (by decide) rfl)
      | cons y ys =>
        have c1 := NTakeS_some nb R d g u B C X (by omega) h (.string y) (ys.map Value.string) (by rw [eln, hy]; rfl)
        rw [eln] at c1
        have c2 := QTake_some xb d R g u A K X (by omega) h (.string y) (ys.map Value.string) (by rw [hy]; rfl) (by simp at hyl ⊢; omega)
        refine To.run 5 ?_
        refine To.one (One.load 0 (t := 3) (off := 1) (v := Value.int IntKind.i64 (↑g : Int)) hs rfl (by kernel_rfl) (by kernel_rfl) ?_)
        refine To.run 1 ?_
        refine To.one (One.load 0 (t := 3) (off := 2) (v := Value.int IntKind.i64 (↑u : Int)) hs rfl (by kernel_rfl) (by kernel_rfl) ?_)
        refine To.one (One.call 6 [1, 2] [0, 3, 4, 5] (g := 42) (args := [Value.pointer (some { block := nb, off := 0 }), Value.int IntKind.i64 (↑g : Int), Value.int IntKind.i64 (↑u : Int)]) (by kernel_rfl) hs (c1) (by decide) rfl ?_)
        rintro _ _ w1 ⟨rfl, rfl⟩ hs1
        simp only [pickAll, List.filterMap_cons, List.filterMap_nil, List.getElem?_cons_zero, List.getElem?_cons_succ, List.cons_append, List.nil_append, List.drop_succ_cons, List.drop_zero] at hs1
        clear hs
        refine To.run 10 ?_
        refine To.one (One.load 2 (t := 3) (off := 1) (v := Value.int IntKind.i64 (↑g : Int)) hs1 rfl (by kernel_rfl) (by kernel_rfl) ?_)
        refine To.run 1 ?_
        refine To.one (One.load 2 (t := 3) (off := 2) (v := Value.int IntKind.i64 (↑u : Int)) hs1 rfl (by kernel_rfl) (by kernel_rfl) ?_)
        refine To.one (One.call 6 [3, 4] [0, 1, 2, 5] (g := 43) (args := [Value.pointer (some { block := xb, off := 0 }), Value.int IntKind.i64 (↑g : Int), Value.int IntKind.i64 (↑u : Int)]) (by kernel_rfl) hs1 (c2) (by decide) rfl ?_)
        rintro _ _ w2 ⟨A', K', rfl, rfl⟩ hs2
        simp only [pickAll, List.filterMap_cons, List.filterMap_nil, List.getElem?_cons_zero, List.getElem?_cons_succ, List.cons_append, List.nil_append, List.drop_succ_cons, List.drop_zero] at hs2
        clear hs1
        refine To.run 11 ?_
        refine To.isTrue 129 (t := y.toList == y.toList) (by kernel_rfl) (by simp) ?_
        refine To.run 7 ?_
        refine To.at (fn := Try.f7) (n := 27) (l := [(3, Value.slice al len cap), (9, Value.bool true), (10, Value.pointer (some { block := nb, off := 0 })), (12, Value.pointer (some { block := xb, off := 0 })), (13, Value.int IntKind.i64 (↑k : Int)), (14, Value.pointer (some { block := b1, off := 0 })), (15, Value.bool true)]) (by kernel_rfl) fun j => ?_
        exact NP_after W al len cap d R nb xb b1 B C _ _ _ hd1 hd4 hR k hk _ _ _ _ _ (hX.put (g * 5 + u) (ys) (by simp at hyl ⊢; omega)) fin _ _ (hs2.get [4, 2, 3, 0, 1, 5] (by decide) rfl)
    · skip
      have c1 := NTakeS_no nb R d f t B C X h
      have c2 := QTake_no xb d R f t A K X h
      refine To.run 5 ?_
      refine To.one (One.load 0 (t := 3) (off := 1) (v := Value.int IntKind.i64 f) hs rfl (by kernel_rfl) (by kernel_rfl) ?_)
      refine To.run 1 ?_
      refine To.one (One.load 0 (t := 3) (off := 2) (v := Value.int IntKind.i64 t) hs rfl (by kernel_rfl) (by kernel_rfl) ?_)
      refine To.one (One.call 6 [1, 2] [0, 3, 4, 5] (g := 42) (args := [Value.pointer (some { block := nb, off := 0 }), Value.int IntKind.i64 f, Value.int IntKind.i64 t]) (by kernel_rfl) hs (c1) (by decide) rfl ?_)
      rintro _ _ w1 ⟨rfl, rfl⟩ hs1
      simp only [pickAll, List.filterMap_cons, List.filterMap_nil, List.getElem?_cons_zero, List.getElem?_cons_succ, List.cons_append, List.nil_append, List.drop_succ_cons, List.drop_zero] at hs1
      clear hs
      refine To.run 10 ?_
      refine To.one (One.load 2 (t := 3) (off := 1) (v := Value.int IntKind.i64 f) hs1 rfl (by kernel_rfl) (by kernel_rfl) ?_)
      refine To.run 1 ?_
      refine To.one (One.load 2 (t := 3) (off := 2) (v := Value.int IntKind.i64 t) hs1 rfl (by kernel_rfl) (by kernel_rfl) ?_)
      refine To.one (One.call 6 [3, 4] [0, 1, 2, 5] (g := 43) (args := [Value.pointer (some { block := xb, off := 0 }), Value.int IntKind.i64 f, Value.int IntKind.i64 t]) (by kernel_rfl) hs1 (c2) (by decide) rfl ?_)
      rintro _ _ w2 ⟨rfl, rfl⟩ hs2
      simp only [pickAll, List.filterMap_cons, List.filterMap_nil, List.getElem?_cons_zero, List.getElem?_cons_succ, List.cons_append, List.nil_append, List.drop_succ_cons, List.drop_zero] at hs2
      clear hs1
      refine To.run 18 ?_
      refine To.at (fn := Try.f7) (n := 27) (l := [(3, Value.slice al len cap), (9, Value.bool true), (10, Value.pointer (some { block := nb, off := 0 })), (12, Value.pointer (some { block := xb, off := 0 })), (13, Value.int IntKind.i64 (↑k : Int)), (14, Value.pointer (some { block := b1, off := 0 })), (15, Value.bool true)]) (by kernel_rfl) fun j => ?_
      exact NP_after W al len cap d R nb xb b1 B C _ _ _ hd1 hd4 hR k hk _ _ _ _ _ (hX) fin _ _ (hs2.get [4, 2, 3, 0, 1, 5] (by decide) rfl)
  · refine To.run 6 ?_
    refine To.split 134 (t := kd.tmod 8 == 5) (by kernel_rfl) (fun k5 => ?_) (fun k5 => ?_)
    · by_cases h : isLane d f t
      · have hl := h
        obtain ⟨a1, a2, a3, a4, a5⟩ := hl
        obtain ⟨g, rfl⟩ : ∃ g : Nat, f = g := ⟨f.toNat, by omega⟩
        obtain ⟨u, rfl⟩ : ∃ u : Nat, t = u := ⟨t.toNat, by omega⟩
        have eln : ln g u = g * 5 + u := by unfold ln; omega
        obtain ⟨ys, hy, hyl⟩ := hX (g * 5 + u)
        cases ys with
        | nil =>
          have c1 := NLoseS_none nb R d g u B C X (by omega) h (by rw [eln, hy]; rfl)
          have c2 := QTake_none xb d R g u A K X (by omega) h (by rw [hy]; rfl)
          refine To.run 5 ?_
          refine To.one (One.load 0 (t := 3) (off := 1) (v := Value.int IntKind.i64 (↑g : Int)) hs rfl (by kernel_rfl) (by kernel_rfl) ?_)
          refine To.run 1 ?_
          refine To.one (One.load 0 (t := 3) (off := 2) (v := Value.int IntKind.i64 (↑u : Int)) hs rfl (by kernel_rfl) (by kernel_rfl) ?_)
          refine To.one (One.call 6 [3, 4] [0, 1, 2, 5] (g := 43) (args := [Value.pointer (some { block := xb, off := 0 }), Value.int IntKind.i64 (↑g : Int), Value.int IntKind.i64 (↑u : Int)]) (by kernel_rfl) hs (c2) (by decide) rfl ?_)
          rintro _ _ w1 ⟨rfl, rfl⟩ hs1
          simp only [pickAll, List.filterMap_cons, List.filterMap_nil, List.getElem?_cons_zero, List.getElem?_cons_succ, List.cons_append, List.nil_append, List.drop_succ_cons, List.drop_zero] at hs1
          clear hs
          refine To.run 9 ?_
          refine To.one (One.load 2 (t := 3) (off := 1) (v := Value.int IntKind.i64 (↑g : Int)) hs1 rfl (by kernel_rfl) (by kernel_rfl) ?_)
          refine To.run 1 ?_
          refine To.one (One.load 2 (t := 3) (off := 2) (v := Value.int IntKind.i64 (↑u : Int)) hs1 rfl (by kernel_rfl) (by kernel_rfl) ?_)
          refine To.one (One.call 6 [3, 4] [0, 1, 2, 5] (g := 44) (args := [Value.pointer (some { block := nb, off := 0 }), Value.int IntKind.i64 (↑g : Int), Value.int IntKind.i64 (↑u : Int)]) (by kernel_rfl) hs1 (c1) (by decide) rfl ?_)
          rintro _ _ w2 ⟨rfl, rfl⟩ hs2
          simp only [pickAll, List.filterMap_cons, List.filterMap_nil, List.getElem?_cons_zero, List.getElem?_cons_succ, List.cons_append, List.nil_append, List.drop_succ_cons, List.drop_zero] at hs2
          clear hs1
          refine To.run 5 ?_
          refine To.at (fn := Try.f7) (n := 27) (l := [(3, Value.slice al len cap), (9, Value.bool true), (10, Value.pointer (some { block := nb, off := 0 })), (12, Value.pointer (some { block := xb, off := 0 })), (13, Value.int IntKind.i64 (↑k : Int)), (14, Value.pointer (some { block := b1, off := 0 })), (15, Value.bool true)]) (by kernel_rfl) fun j => ?_
          exact NP_after W al len cap d R nb xb b1 B C _ _ _ hd1 hd4 hR k hk _ _ _ _ _ (hX) fin _ _ (hs2.get [4, 0, 1, 2, 3, 5] (by decide) rfl)
        | cons y ys =>
          have c1 := NLoseS_some nb R d g u B C X (by omega) h (.string y) (ys.map Value.string) (by rw [eln, hy]; rfl)
          rw [eln] at c1
          have c2 := QTake_some xb d R g u A K X (by omega) h (.string y) (ys.map Value.string) (by rw [hy]; rfl) (by simp at hyl ⊢; omega)
          refine To.run 5 ?_
          refine To.one (One.load 0 (t := 3) (off := 1) (v := Value.int IntKind.i64 (↑g : Int)) hs rfl (by kernel_rfl) (by kernel_rfl) ?_)
          refine To.run 1 ?_
          refine To.one (One.load 0 (t := 3) (off := 2) (v := Value.int IntKind.i64 (↑u : Int)) hs rfl (by kernel_rfl) (by kernel_rfl) ?_)
          refine To.one (One.call 6 [3, 4] [0, 1, 2, 5] (g := 43) (args := [Value.pointer (some { block := xb, off := 0 }), Value.int IntKind.i64 (↑g : Int), Value.int IntKind.i64 (↑u : Int)]) (by kernel_rfl) hs (c2) (by decide) rfl ?_)
          rintro _ _ w1 ⟨A', K', rfl, rfl⟩ hs1
          simp only [pickAll, List.filterMap_cons, List.filterMap_nil, List.getElem?_cons_zero, List.getElem?_cons_succ, List.cons_append, List.nil_append, List.drop_succ_cons, List.drop_zero] at hs1
          clear hs
          refine To.run 9 ?_
          refine To.one (One.load 2 (t := 3) (off := 1) (v := Value.int IntKind.i64 (↑g : Int)) hs1 rfl (by kernel_rfl) (by kernel_rfl) ?_)
          refine To.run 1 ?_
          refine To.one (One.load 2 (t := 3) (off := 2) (v := Value.int IntKind.i64 (↑u : Int)) hs1 rfl (by kernel_rfl) (by kernel_rfl) ?_)
          refine To.one (One.call 6 [3, 4] [0, 1, 2, 5] (g := 44) (args := [Value.pointer (some { block := nb, off := 0 }), Value.int IntKind.i64 (↑g : Int), Value.int IntKind.i64 (↑u : Int)]) (by kernel_rfl) hs1 (c1) (by decide) rfl ?_)
          rintro _ _ w2 ⟨rfl, rfl⟩ hs2
          simp only [pickAll, List.filterMap_cons, List.filterMap_nil, List.getElem?_cons_zero, List.getElem?_cons_succ, List.cons_append, List.nil_append, List.drop_succ_cons, List.drop_zero] at hs2
          clear hs1
          refine To.run 5 ?_
          refine To.at (fn := Try.f7) (n := 27) (l := [(3, Value.slice al len cap), (9, Value.bool true), (10, Value.pointer (some { block := nb, off := 0 })), (12, Value.pointer (some { block := xb, off := 0 })), (13, Value.int IntKind.i64 (↑k : Int)), (14, Value.pointer (some { block := b1, off := 0 })), (15, Value.bool true)]) (by kernel_rfl) fun j => ?_
          exact NP_after W al len cap d R nb xb b1 B C _ _ _ hd1 hd4 hR k hk _ _ _ _ _ (hX.put (g * 5 + u) (ys) (by simp at hyl ⊢; omega)) fin _ _ (hs2.get [4, 0, 1, 2, 3, 5] (by decide) rfl)
      · skip
        have c1 := NLoseS_no nb R d f t B C X h
        have c2 := QTake_no xb d R f t A K X h
        refine To.run 5 ?_
        refine To.one (One.load 0 (t := 3) (off := 1) (v := Value.int IntKind.i64 f) hs rfl (by kernel_rfl) (by kernel_rfl) ?_)
        refine To.run 1 ?_
        refine To.one (One.load 0 (t := 3) (off := 2) (v := Value.int IntKind.i64 t) hs rfl (by kernel_rfl) (by kernel_rfl) ?_)
        refine To.one (One.call 6 [3, 4] [0, 1, 2, 5] (g := 43) (args := [Value.pointer (some { block := xb, off := 0 }), Value.int IntKind.i64 f, Value.int IntKind.i64 t]) (by kernel_rfl) hs (c2) (by decide) rfl ?_)
        rintro _ _ w1 ⟨rfl, rfl⟩ hs1
        simp only [pickAll, List.filterMap_cons, List.filterMap_nil, List.getElem?_cons_zero, List.getElem?_cons_succ, List.cons_append, List.nil_append, List.drop_succ_cons, List.drop_zero] at hs1
        clear hs
        refine To.run 9 ?_
        refine To.one (One.load 2 (t := 3) (off := 1) (v := Value.int IntKind.i64 f) hs1 rfl (by kernel_rfl) (by kernel_rfl) ?_)
        refine To.run 1 ?_
        refine To.one (One.load 2 (t := 3) (off := 2) (v := Value.int IntKind.i64 t) hs1 rfl (by kernel_rfl) (by kernel_rfl) ?_)
        refine To.one (One.call 6 [3, 4] [0, 1, 2, 5] (g := 44) (args := [Value.pointer (some { block := nb, off := 0 }), Value.int IntKind.i64 f, Value.int IntKind.i64 t]) (by kernel_rfl) hs1 (c1) (by decide) rfl ?_)
        rintro _ _ w2 ⟨rfl, rfl⟩ hs2
        simp only [pickAll, List.filterMap_cons, List.filterMap_nil, List.getElem?_cons_zero, List.getElem?_cons_succ, List.cons_append, List.nil_append, List.drop_succ_cons, List.drop_zero] at hs2
        clear hs1
        refine To.run 5 ?_
        refine To.at (fn := Try.f7) (n := 27) (l := [(3, Value.slice al len cap), (9, Value.bool true), (10, Value.pointer (some { block := nb, off := 0 })), (12, Value.pointer (some { block := xb, off := 0 })), (13, Value.int IntKind.i64 (↑k : Int)), (14, Value.pointer (some { block := b1, off := 0 })), (15, Value.bool true)]) (by kernel_rfl) fun j => ?_
        exact NP_after W al len cap d R nb xb b1 B C _ _ _ hd1 hd4 hR k hk _ _ _ _ _ (hX) fin _ _ (hs2.get [4, 0, 1, 2, 3, 5] (by decide) rfl)
    · refine To.run 6 ?_
      refine To.split 153 (t := kd.tmod 8 == 6) (by kernel_rfl) (fun k6 => ?_) (fun k6 => ?_)
      · by_cases h : isLane d f t
        · have hl := h
          obtain ⟨a1, a2, a3, a4, a5⟩ := hl
          obtain ⟨g, rfl⟩ : ∃ g : Nat, f = g := ⟨f.toNat, by omega⟩
          obtain ⟨u, rfl⟩ : ∃ u : Nat, t = u := ⟨t.toNat, by omega⟩
          have eln : ln g u = g * 5 + u := by unfold ln; omega
          obtain ⟨ys, hy, hyl⟩ := hX (g * 5 + u)
          cases ys with
          | nil =>
            have c1 := NCopyS_none nb R d g u B C X (by omega) h (by rw [eln, hy]; rfl)
            have c2 := QCopy_none xb d R g u A K X (by omega) h (by rw [hy]; rfl)
            refine To.run 1 ?_
            refine To.draw [cel b1 83 [Value.int IntKind.u8 kd, Value.int IntKind.i64 (↑g : Int), Value.int IntKind.i64 (↑u : Int), Value.string s, nv], cel nb 119 (netCells (↑d : Int) B), cel xb 123 (qCells (↑d : Int) (↑R : Int) A K X), old W] 14 hs (by kernel_rfl) (by kernel_rfl) (by kernel_rfl) fun w1 hs1 => ?_
            clear hs
            have hb1 := Sat.holds hs1 [0, 1, 3, 5] rfl
            refine Reg.pures [0, 1, 3, 6, 7, 9] (fuel' := 8) hb1 rfl (by kernel_rfl) ?_
            refine Reg.load 2 0 (t := 3) (off := 1) (v := Value.int IntKind.i64 (↑g : Int)) hb1 rfl (by kernel_rfl) (by kernel_rfl) (by kernel_rfl) ?_
            refine Reg.load 4 0 (t := 3) (off := 2) (v := Value.int IntKind.i64 (↑u : Int)) hb1 rfl (by kernel_rfl) (by kernel_rfl) (by kernel_rfl) ?_
            refine Reg.load 8 0 (t := 3) (off := 1) (v := Value.int IntKind.i64 (↑g : Int)) hb1 rfl (by kernel_rfl) (by kernel_rfl) (by kernel_rfl) ?_
            refine Reg.load 10 0 (t := 3) (off := 2) (v := Value.int IntKind.i64 (↑u : Int)) hb1 rfl (by kernel_rfl) (by kernel_rfl) (by kernel_rfl) ?_
            refine Reg.step 5 (by kernel_rfl) (One.call 6 [1, 2] [0, 3, 4, 5] (g := 45) (args := [Value.pointer (some { block := nb, off := 0 }), Value.int IntKind.i64 (↑g : Int), Value.int IntKind.i64 (↑u : Int)]) (by kernel_rfl) hs1 (c1) (by decide) rfl ?_)
            rintro _ _ w2 ⟨rfl, rfl⟩ hs2
            simp only [pickAll, List.filterMap_cons, List.filterMap_nil, List.getElem?_cons_zero, List.getElem?_cons_succ, List.cons_append, List.nil_append, List.drop_succ_cons, List.drop_zero] at hs2
            clear hs1
            have hb2 := Sat.holds hs2 [2, 0, 3, 5] (B := [cel b1 83 [Value.int IntKind.u8 kd, Value.int IntKind.i64 (↑g : Int), Value.int IntKind.i64 (↑u : Int), Value.string s, nv], cel nb 119 (netCells (↑d : Int) B), cel xb 123 (qCells (↑d : Int) (↑R : Int) A K X), old W]) rfl
            clear hb1
            refine ⟨hb2, ?_⟩
            refine Reg.step 11 (by kernel_rfl) (One.call 6 [3, 4] [0, 1, 2, 5] (g := 46) (args := [Value.pointer (some { block := xb, off := 0 }), Value.int IntKind.i64 (↑g : Int), Value.int IntKind.i64 (↑u : Int)]) (by kernel_rfl) hs2 (c2) (by decide) rfl ?_)
            rintro _ _ w3 ⟨rfl, rfl⟩ hs1
            simp only [pickAll, List.filterMap_cons, List.filterMap_nil, List.getElem?_cons_zero, List.getElem?_cons_succ, List.cons_append, List.nil_append, List.drop_succ_cons, List.drop_zero] at hs1
            clear hs2
            have hb1 := Sat.holds hs1 [4, 2, 0, 5] (B := [cel b1 83 [Value.int IntKind.u8 kd, Value.int IntKind.i64 (↑g : Int), Value.int IntKind.i64 (↑u : Int), Value.string s, nv], cel nb 119 (netCells (↑d : Int) B), cel xb 123 (qCells (↑d : Int) (↑R : Int) A K X), old W]) rfl
            clear hb2
            refine ⟨hb1, ?_⟩
            refine Reg.pures [12, 13] (fuel' := 0) hb1 rfl (by kernel_rfl) ?_
            refine Reg.done (by kernel_rfl) ?_
            clear hb1
            refine To.run 1 ?_
            refine To.at (fn := Try.f7) (n := 27) (l := [(3, Value.slice al len cap), (9, Value.bool true), (10, Value.pointer (some { block := nb, off := 0 })), (12, Value.pointer (some { block := xb, off := 0 })), (13, Value.int IntKind.i64 (↑k : Int)), (14, Value.pointer (some { block := b1, off := 0 })), (15, Value.bool true)]) (by kernel_rfl) fun j => ?_
            exact NP_after W al len cap d R nb xb b1 B C _ _ _ hd1 hd4 hR k hk _ _ _ _ _ (hX) fin _ _ (hs1.get [4, 2, 3, 0, 1, 5] (by decide) rfl)
          | cons y ys =>
            simp only [List.length_cons] at hyl
            by_cases hr : ys.length + 1 = R
            · skip
              have c1 := NCopyS_full nb R d g u B C X (by omega) h (by rw [eln, hy]; simp) (by rw [eln, hy]; simp; omega)
              have c2 := QCopy_full xb d R g u A K X (by omega) h y ys hy (by omega) (by omega)
              refine To.run 1 ?_
              refine To.draw [cel b1 83 [Value.int IntKind.u8 kd, Value.int IntKind.i64 (↑g : Int), Value.int IntKind.i64 (↑u : Int), Value.string s, nv], cel nb 119 (netCells (↑d : Int) B), cel xb 123 (qCells (↑d : Int) (↑R : Int) A K X), old W] 14 hs (by kernel_rfl) (by kernel_rfl) (by kernel_rfl) fun w1 hs1 => ?_
              clear hs
              have hb1 := Sat.holds hs1 [0, 1, 3, 5] rfl
              refine Reg.pures [0, 1, 3, 6, 7, 9] (fuel' := 8) hb1 rfl (by kernel_rfl) ?_
              refine Reg.load 2 0 (t := 3) (off := 1) (v := Value.int IntKind.i64 (↑g : Int)) hb1 rfl (by kernel_rfl) (by kernel_rfl) (by kernel_rfl) ?_
              refine Reg.load 4 0 (t := 3) (off := 2) (v := Value.int IntKind.i64 (↑u : Int)) hb1 rfl (by kernel_rfl) (by kernel_rfl) (by kernel_rfl) ?_
              refine Reg.load 8 0 (t := 3) (off := 1) (v := Value.int IntKind.i64 (↑g : Int)) hb1 rfl (by kernel_rfl) (by kernel_rfl) (by kernel_rfl) ?_
              refine Reg.load 10 0 (t := 3) (off := 2) (v := Value.int IntKind.i64 (↑u : Int)) hb1 rfl (by kernel_rfl) (by kernel_rfl) (by kernel_rfl) ?_
              refine Reg.step 5 (by kernel_rfl) (One.call 6 [1, 2] [0, 3, 4, 5] (g := 45) (args := [Value.pointer (some { block := nb, off := 0 }), Value.int IntKind.i64 (↑g : Int), Value.int IntKind.i64 (↑u : Int)]) (by kernel_rfl) hs1 (c1) (by decide) rfl ?_)
              rintro _ _ w2 ⟨rfl, rfl⟩ hs2
              simp only [pickAll, List.filterMap_cons, List.filterMap_nil, List.getElem?_cons_zero, List.getElem?_cons_succ, List.cons_append, List.nil_append, List.drop_succ_cons, List.drop_zero] at hs2
              clear hs1
              have hb2 := Sat.holds hs2 [2, 0, 3, 5] (B := [cel b1 83 [Value.int IntKind.u8 kd, Value.int IntKind.i64 (↑g : Int), Value.int IntKind.i64 (↑u : Int), Value.string s, nv], cel nb 119 (netCells (↑d : Int) B), cel xb 123 (qCells (↑d : Int) (↑R : Int) A K X), old W]) rfl
              clear hb1
              refine ⟨hb2, ?_⟩
              refine Reg.step 11 (by kernel_rfl) (One.call 6 [3, 4] [0, 1, 2, 5] (g := 46) (args := [Value.pointer (some { block := xb, off := 0 }), Value.int IntKind.i64 (↑g : Int), Value.int IntKind.i64 (↑u : Int)]) (by kernel_rfl) hs2 (c2) (by decide) rfl ?_)
              rintro _ _ w3 ⟨rfl, rfl⟩ hs1
              simp only [pickAll, List.filterMap_cons, List.filterMap_nil, List.getElem?_cons_zero, List.getElem?_cons_succ, List.cons_append, List.nil_append, List.drop_succ_cons, List.drop_zero] at hs1
              clear hs2
              have hb1 := Sat.holds hs1 [4, 2, 0, 5] (B := [cel b1 83 [Value.int IntKind.u8 kd, Value.int IntKind.i64 (↑g : Int), Value.int IntKind.i64 (↑u : Int), Value.string s, nv], cel nb 119 (netCells (↑d : Int) B), cel xb 123 (qCells (↑d : Int) (↑R : Int) A K X), old W]) rfl
              clear hb2
              refine ⟨hb1, ?_⟩
              refine Reg.pures [12, 13] (fuel' := 0) hb1 rfl (by kernel_rfl) ?_
              refine Reg.done (by kernel_rfl) ?_
              clear hb1
              refine To.run 1 ?_
              refine To.at (fn := Try.f7) (n := 27) (l := [(3, Value.slice al len cap), (9, Value.bool true), (10, Value.pointer (some { block := nb, off := 0 })), (12, Value.pointer (some { block := xb, off := 0 })), (13, Value.int IntKind.i64 (↑k : Int)), (14, Value.pointer (some { block := b1, off := 0 })), (15, Value.bool true)]) (by kernel_rfl) fun j => ?_
              exact NP_after W al len cap d R nb xb b1 B C _ _ _ hd1 hd4 hR k hk _ _ _ _ _ (hX) fin _ _ (hs1.get [4, 2, 3, 0, 1, 5] (by decide) rfl)
            · skip
              have c1 := NCopyS_ok nb R d g u B C X (by omega) h y ys (by rw [eln, hy]) (by omega) (by omega)
              rw [eln] at c1
              have c2 := QCopy_ok xb d R g u A K X (by omega) h y ys hy (by omega) (by omega)
              refine To.run 1 ?_
              refine To.draw [cel b1 83 [Value.int IntKind.u8 kd, Value.int IntKind.i64 (↑g : Int), Value.int IntKind.i64 (↑u : Int), Value.string s, nv], cel nb 119 (netCells (↑d : Int) B), old W] 14 hs (by kernel_rfl) (by kernel_rfl) (by kernel_rfl) fun w1 hs1 => ?_
              clear hs
              have hb1 := Sat.holds hs1 [0, 1, 5] rfl
              refine Reg.pures [0, 1, 3, 6, 7, 9] (fuel' := 8) hb1 rfl (by kernel_rfl) ?_
              refine Reg.load 2 0 (t := 3) (off := 1) (v := Value.int IntKind.i64 (↑g : Int)) hb1 rfl (by kernel_rfl) (by kernel_rfl) (by kernel_rfl) ?_
              refine Reg.load 4 0 (t := 3) (off := 2) (v := Value.int IntKind.i64 (↑u : Int)) hb1 rfl (by kernel_rfl) (by kernel_rfl) (by kernel_rfl) ?_
              refine Reg.load 8 0 (t := 3) (off := 1) (v := Value.int IntKind.i64 (↑g : Int)) hb1 rfl (by kernel_rfl) (by kernel_rfl) (by kernel_rfl) ?_
              refine Reg.load 10 0 (t := 3) (off := 2) (v := Value.int IntKind.i64 (↑u : Int)) hb1 rfl (by kernel_rfl) (by kernel_rfl) (by kernel_rfl) ?_
              refine Reg.step 5 (by kernel_rfl) (One.call 6 [1, 2] [0, 3, 4, 5] (g := 45) (args := [Value.pointer (some { block := nb, off := 0 }), Value.int IntKind.i64 (↑g : Int), Value.int IntKind.i64 (↑u : Int)]) (by kernel_rfl) hs1 (c1) (by decide) rfl ?_)
              rintro _ _ w2 ⟨rfl, rfl⟩ hs2
              simp only [pickAll, List.filterMap_cons, List.filterMap_nil, List.getElem?_cons_zero, List.getElem?_cons_succ, List.cons_append, List.nil_append, List.drop_succ_cons, List.drop_zero] at hs2
              clear hs1
              have hb2 := Sat.holds hs2 [2, 0, 5] (B := [cel b1 83 [Value.int IntKind.u8 kd, Value.int IntKind.i64 (↑g : Int), Value.int IntKind.i64 (↑u : Int), Value.string s, nv], cel nb 119 (netCells (↑d : Int) B), old W]) rfl
              clear hb1
              refine ⟨hb2, ?_⟩
              refine Reg.step 11 (by kernel_rfl) (One.call 6 [3, 4] [0, 1, 2, 5] (g := 46) (args := [Value.pointer (some { block := xb, off := 0 }), Value.int IntKind.i64 (↑g : Int), Value.int IntKind.i64 (↑u : Int)]) (by kernel_rfl) hs2 (c2) (by decide) rfl ?_)
              rintro _ _ w3 ⟨A', K', rfl, rfl⟩ hs1
              simp only [pickAll, List.filterMap_cons, List.filterMap_nil, List.getElem?_cons_zero, List.getElem?_cons_succ, List.cons_append, List.nil_append, List.drop_succ_cons, List.drop_zero] at hs1
              clear hs2
              have hb1 := Sat.holds hs1 [4, 2, 5] (B := [cel b1 83 [Value.int IntKind.u8 kd, Value.int IntKind.i64 (↑g : Int), Value.int IntKind.i64 (↑u : Int), Value.string s, nv], cel nb 119 (netCells (↑d : Int) B), old W]) rfl
              clear hb2
              refine ⟨hb1, ?_⟩
              refine Reg.pures [12, 13] (fuel' := 0) hb1 rfl (by kernel_rfl) ?_
              refine Reg.done (by kernel_rfl) ?_
              clear hb1
              refine To.run 1 ?_
              refine To.at (fn := Try.f7) (n := 27) (l := [(3, Value.slice al len cap), (9, Value.bool true), (10, Value.pointer (some { block := nb, off := 0 })), (12, Value.pointer (some { block := xb, off := 0 })), (13, Value.int IntKind.i64 (↑k : Int)), (14, Value.pointer (some { block := b1, off := 0 })), (15, Value.bool true)]) (by kernel_rfl) fun j => ?_
              exact NP_after W al len cap d R nb xb b1 B C _ _ _ hd1 hd4 hR k hk _ _ _ _ _ (hX.put (g * 5 + u) (y :: ys ++ [y]) (by simp at hyl ⊢; omega)) fin _ _ (hs1.get [4, 2, 3, 0, 1, 5] (by decide) rfl)
        · skip
          have c1 := NCopyS_no nb R d f t B C X h
          have c2 := QCopy_no xb d R f t A K X h
          refine To.run 1 ?_
          refine To.draw [cel b1 83 [Value.int IntKind.u8 kd, Value.int IntKind.i64 f, Value.int IntKind.i64 t, Value.string s, nv], cel nb 119 (netCells (↑d : Int) B), cel xb 123 (qCells (↑d : Int) (↑R : Int) A K X), old W] 14 hs (by kernel_rfl) (by kernel_rfl) (by kernel_rfl) fun w1 hs1 => ?_
          clear hs
          have hb1 := Sat.holds hs1 [0, 1, 3, 5] rfl
          refine Reg.pures [0, 1, 3, 6, 7, 9] (fuel' := 8) hb1 rfl (by kernel_rfl) ?_
          refine Reg.load 2 0 (t := 3) (off := 1) (v := Value.int IntKind.i64 f) hb1 rfl (by kernel_rfl) (by kernel_rfl) (by kernel_rfl) ?_
          refine Reg.load 4 0 (t := 3) (off := 2) (v := Value.int IntKind.i64 t) hb1 rfl (by kernel_rfl) (by kernel_rfl) (by kernel_rfl) ?_
          refine Reg.load 8 0 (t := 3) (off := 1) (v := Value.int IntKind.i64 f) hb1 rfl (by kernel_rfl) (by kernel_rfl) (by kernel_rfl) ?_
          refine Reg.load 10 0 (t := 3) (off := 2) (v := Value.int IntKind.i64 t) hb1 rfl (by kernel_rfl) (by kernel_rfl) (by kernel_rfl) ?_
          refine Reg.step 5 (by kernel_rfl) (One.call 6 [1, 2] [0, 3, 4, 5] (g := 45) (args := [Value.pointer (some { block := nb, off := 0 }), Value.int IntKind.i64 f, Value.int IntKind.i64 t]) (by kernel_rfl) hs1 (c1) (by decide) rfl ?_)
          rintro _ _ w2 ⟨rfl, rfl⟩ hs2
          simp only [pickAll, List.filterMap_cons, List.filterMap_nil, List.getElem?_cons_zero, List.getElem?_cons_succ, List.cons_append, List.nil_append, List.drop_succ_cons, List.drop_zero] at hs2
          clear hs1
          have hb2 := Sat.holds hs2 [2, 0, 3, 5] (B := [cel b1 83 [Value.int IntKind.u8 kd, Value.int IntKind.i64 f, Value.int IntKind.i64 t, Value.string s, nv], cel nb 119 (netCells (↑d : Int) B), cel xb 123 (qCells (↑d : Int) (↑R : Int) A K X), old W]) rfl
          clear hb1
          refine ⟨hb2, ?_⟩
          refine Reg.step 11 (by kernel_rfl) (One.call 6 [3, 4] [0, 1, 2, 5] (g := 46) (args := [Value.pointer (some { block := xb, off := 0 }), Value.int IntKind.i64 f, Value.int IntKind.i64 t]) (by kernel_rfl) hs2 (c2) (by decide) rfl ?_)
          rintro _ _ w3 ⟨rfl, rfl⟩ hs1
          simp only [pickAll, List.filterMap_cons, List.filterMap_nil, List.getElem?_cons_zero, List.getElem?_cons_succ, List.cons_append, List.nil_append, List.drop_succ_cons, List.drop_zero] at hs1
          clear hs2
          have hb1 := Sat.holds hs1 [4, 2, 0, 5] (B := [cel b1 83 [Value.int IntKind.u8 kd, Value.int IntKind.i64 f, Value.int IntKind.i64 t, Value.string s, nv], cel nb 119 (netCells (↑d : Int) B), cel xb 123 (qCells (↑d : Int) (↑R : Int) A K X), old W]) rfl
          clear hb2
          refine ⟨hb1, ?_⟩
          refine Reg.pures [12, 13] (fuel' := 0) hb1 rfl (by kernel_rfl) ?_
          refine Reg.done (by kernel_rfl) ?_
          clear hb1
          refine To.run 1 ?_
          refine To.at (fn := Try.f7) (n := 27) (l := [(3, Value.slice al len cap), (9, Value.bool true), (10, Value.pointer (some { block := nb, off := 0 })), (12, Value.pointer (some { block := xb, off := 0 })), (13, Value.int IntKind.i64 (↑k : Int)), (14, Value.pointer (some { block := b1, off := 0 })), (15, Value.bool true)]) (by kernel_rfl) fun j => ?_
          exact NP_after W al len cap d R nb xb b1 B C _ _ _ hd1 hd4 hR k hk _ _ _ _ _ (hX) fin _ _ (hs1.get [4, 2, 3, 0, 1, 5] (by decide) rfl)
      · refine To.run 6 ?_
        refine To.split 168 (t := kd.tmod 8 == 7) (by kernel_rfl) (fun k7 => ?_) (fun k7 => ?_)
        · by_cases h : isLane d f t
          · have hl := h
            obtain ⟨a1, a2, a3, a4, a5⟩ := hl
            obtain ⟨g, rfl⟩ : ∃ g : Nat, f = g := ⟨f.toNat, by omega⟩
            obtain ⟨u, rfl⟩ : ∃ u : Nat, t = u := ⟨t.toNat, by omega⟩
            have eln : ln g u = g * 5 + u := by unfold ln; omega
            obtain ⟨ys, hy, hyl⟩ := hX (g * 5 + u)
            cases ys with
            | nil =>
              have c1 := NTurnS_none nb R d g u B C X (by omega) h (by rw [eln, hy]; rfl)
              have c2 := QTurn_none xb d R g u A K X (by omega) h (by rw [hy]; rfl)
              refine To.run 1 ?_
              refine To.draw [cel b1 83 [Value.int IntKind.u8 kd, Value.int IntKind.i64 (↑g : Int), Value.int IntKind.i64 (↑u : Int), Value.string s, nv], cel nb 119 (netCells (↑d : Int) B), cel xb 123 (qCells (↑d : Int) (↑R : Int) A K X), old W] 14 hs (by kernel_rfl) (by kernel_rfl) (by kernel_rfl) fun w1 hs1 => ?_
              clear hs
              have hb1 := Sat.holds hs1 [0, 1, 3, 5] rfl
              refine Reg.pures [0, 1, 3, 6, 7, 9] (fuel' := 8) hb1 rfl (by kernel_rfl) ?_
              refine Reg.load 2 0 (t := 3) (off := 1) (v := Value.int IntKind.i64 (↑g : Int)) hb1 rfl (by kernel_rfl) (by kernel_rfl) (by kernel_rfl) ?_
              refine Reg.load 4 0 (t := 3) (off := 2) (v := Value.int IntKind.i64 (↑u : Int)) hb1 rfl (by kernel_rfl) (by kernel_rfl) (by kernel_rfl) ?_
              refine Reg.load 8 0 (t := 3) (off := 1) (v := Value.int IntKind.i64 (↑g : Int)) hb1 rfl (by kernel_rfl) (by kernel_rfl) (by kernel_rfl) ?_
              refine Reg.load 10 0 (t := 3) (off := 2) (v := Value.int IntKind.i64 (↑u : Int)) hb1 rfl (by kernel_rfl) (by kernel_rfl) (by kernel_rfl) ?_
              refine Reg.step 5 (by kernel_rfl) (One.call 6 [1, 2] [0, 3, 4, 5] (g := 47) (args := [Value.pointer (some { block := nb, off := 0 }), Value.int IntKind.i64 (↑g : Int), Value.int IntKind.i64 (↑u : Int)]) (by kernel_rfl) hs1 (c1) (by decide) rfl ?_)
              rintro _ _ w2 ⟨rfl, rfl⟩ hs2
              simp only [pickAll, List.filterMap_cons, List.filterMap_nil, List.getElem?_cons_zero, List.getElem?_cons_succ, List.cons_append, List.nil_append, List.drop_succ_cons, List.drop_zero] at hs2
              clear hs1
              have hb2 := Sat.holds hs2 [2, 0, 3, 5] (B := [cel b1 83 [Value.int IntKind.u8 kd, Value.int IntKind.i64 (↑g : Int), Value.int IntKind.i64 (↑u : Int), Value.string s, nv], cel nb 119 (netCells (↑d : Int) B), cel xb 123 (qCells (↑d : Int) (↑R : Int) A K X), old W]) rfl
              clear hb1
              refine ⟨hb2, ?_⟩
              refine Reg.step 11 (by kernel_rfl) (One.call 6 [3, 4] [0, 1, 2, 5] (g := 48) (args := [Value.pointer (some { block := xb, off := 0 }), Value.int IntKind.i64 (↑g : Int), Value.int IntKind.i64 (↑u : Int)]) (by kernel_rfl) hs2 (c2) (by decide) rfl ?_)
              rintro _ _ w3 ⟨rfl, rfl⟩ hs1
              simp only [pickAll, List.filterMap_cons, List.filterMap_nil, List.getElem?_cons_zero, List.getElem?_cons_succ, List.cons_append, List.nil_append, List.drop_succ_cons, List.drop_zero] at hs1
              clear hs2
              have hb1 := Sat.holds hs1 [4, 2, 0, 5] (B := [cel b1 83 [Value.int IntKind.u8 kd, Value.int IntKind.i64 (↑g : Int), Value.int IntKind.i64 (↑u : Int), Value.string s, nv], cel nb 119 (netCells (↑d : Int) B), cel xb 123 (qCells (↑d : Int) (↑R : Int) A K X), old W]) rfl
              clear hb2
              refine ⟨hb1, ?_⟩
              refine Reg.pures [12, 13] (fuel' := 0) hb1 rfl (by kernel_rfl) ?_
              refine Reg.done (by kernel_rfl) ?_
              clear hb1
              refine To.run 1 ?_
              refine To.at (fn := Try.f7) (n := 27) (l := [(3, Value.slice al len cap), (9, Value.bool true), (10, Value.pointer (some { block := nb, off := 0 })), (12, Value.pointer (some { block := xb, off := 0 })), (13, Value.int IntKind.i64 (↑k : Int)), (14, Value.pointer (some { block := b1, off := 0 })), (15, Value.bool true)]) (by kernel_rfl) fun j => ?_
              exact NP_after W al len cap d R nb xb b1 B C _ _ _ hd1 hd4 hR k hk _ _ _ _ _ (hX) fin _ _ (hs1.get [4, 2, 3, 0, 1, 5] (by decide) rfl)
            | cons y ys =>
              simp only [List.length_cons] at hyl
              have c1 := NTurnS_some nb R d g u B C X (by omega) h (.string y) (ys.map Value.string) (by rw [eln, hy]; rfl) (by simp; omega)
              rw [eln, show ys.map Value.string ++ [Value.string y] = (ys ++ [y]).map Value.string by rw [List.map_append]; rfl] at c1
              have c2 := QTurn_some xb d R g u A K X (by omega) h y ys hy (by omega) (by omega)
              refine To.run 1 ?_
              refine To.draw [cel b1 83 [Value.int IntKind.u8 kd, Value.int IntKind.i64 (↑g : Int), Value.int IntKind.i64 (↑u : Int), Value.string s, nv], cel nb 119 (netCells (↑d : Int) B), old W] 14 hs (by kernel_rfl) (by kernel_rfl) (by kernel_rfl) fun w1 hs1 => ?_
              clear hs
              have hb1 := Sat.holds hs1 [0, 1, 5] rfl
              refine Reg.pures [0, 1, 3, 6, 7, 9] (fuel' := 8) hb1 rfl (by kernel_rfl) ?_
              refine Reg.load 2 0 (t := 3) (off := 1) (v := Value.int IntKind.i64 (↑g : Int)) hb1 rfl (by kernel_rfl) (by kernel_rfl) (by kernel_rfl) ?_
              refine Reg.load 4 0 (t := 3) (off := 2) (v := Value.int IntKind.i64 (↑u : Int)) hb1 rfl (by kernel_rfl) (by kernel_rfl) (by kernel_rfl) ?_
              refine Reg.load 8 0 (t := 3) (off := 1) (v := Value.int IntKind.i64 (↑g : Int)) hb1 rfl (by kernel_rfl) (by kernel_rfl) (by kernel_rfl) ?_
              refine Reg.load 10 0 (t := 3) (off := 2) (v := Value.int IntKind.i64 (↑u : Int)) hb1 rfl (by kernel_rfl) (by kernel_rfl) (by kernel_rfl) ?_
              refine Reg.step 5 (by kernel_rfl) (One.call 6 [1, 2] [0, 3, 4, 5] (g := 47) (args := [Value.pointer (some { block := nb, off := 0 }), Value.int IntKind.i64 (↑g : Int), Value.int IntKind.i64 (↑u : Int)]) (by kernel_rfl) hs1 (c1) (by decide) rfl ?_)
              rintro _ _ w2 ⟨rfl, rfl⟩ hs2
              simp only [pickAll, List.filterMap_cons, List.filterMap_nil, List.getElem?_cons_zero, List.getElem?_cons_succ, List.cons_append, List.nil_append, List.drop_succ_cons, List.drop_zero] at hs2
              clear hs1
              have hb2 := Sat.holds hs2 [2, 0, 5] (B := [cel b1 83 [Value.int IntKind.u8 kd, Value.int IntKind.i64 (↑g : Int), Value.int IntKind.i64 (↑u : Int), Value.string s, nv], cel nb 119 (netCells (↑d : Int) B), old W]) rfl
              clear hb1
              refine ⟨hb2, ?_⟩
              refine Reg.step 11 (by kernel_rfl) (One.call 6 [3, 4] [0, 1, 2, 5] (g := 48) (args := [Value.pointer (some { block := xb, off := 0 }), Value.int IntKind.i64 (↑g : Int), Value.int IntKind.i64 (↑u : Int)]) (by kernel_rfl) hs2 (c2) (by decide) rfl ?_)
              rintro _ _ w3 ⟨A', K', rfl, rfl⟩ hs1
              simp only [pickAll, List.filterMap_cons, List.filterMap_nil, List.getElem?_cons_zero, List.getElem?_cons_succ, List.cons_append, List.nil_append, List.drop_succ_cons, List.drop_zero] at hs1
              clear hs2
              have hb1 := Sat.holds hs1 [4, 2, 5] (B := [cel b1 83 [Value.int IntKind.u8 kd, Value.int IntKind.i64 (↑g : Int), Value.int IntKind.i64 (↑u : Int), Value.string s, nv], cel nb 119 (netCells (↑d : Int) B), old W]) rfl
              clear hb2
              refine ⟨hb1, ?_⟩
              refine Reg.pures [12, 13] (fuel' := 0) hb1 rfl (by kernel_rfl) ?_
              refine Reg.done (by kernel_rfl) ?_
              clear hb1
              refine To.run 1 ?_
              refine To.at (fn := Try.f7) (n := 27) (l := [(3, Value.slice al len cap), (9, Value.bool true), (10, Value.pointer (some { block := nb, off := 0 })), (12, Value.pointer (some { block := xb, off := 0 })), (13, Value.int IntKind.i64 (↑k : Int)), (14, Value.pointer (some { block := b1, off := 0 })), (15, Value.bool true)]) (by kernel_rfl) fun j => ?_
              exact NP_after W al len cap d R nb xb b1 B C _ _ _ hd1 hd4 hR k hk _ _ _ _ _ (hX.put (g * 5 + u) (ys ++ [y]) (by simp at hyl ⊢; omega)) fin _ _ (hs1.get [4, 2, 3, 0, 1, 5] (by decide) rfl)
          · skip
            have c1 := NTurnS_no nb R d f t B C X h
            have c2 := QTurn_no xb d R f t A K X h
            refine To.run 1 ?_
            refine To.draw [cel b1 83 [Value.int IntKind.u8 kd, Value.int IntKind.i64 f, Value.int IntKind.i64 t, Value.string s, nv], cel nb 119 (netCells (↑d : Int) B), cel xb 123 (qCells (↑d : Int) (↑R : Int) A K X), old W] 14 hs (by kernel_rfl) (by kernel_rfl) (by kernel_rfl) fun w1 hs1 => ?_
            clear hs
            have hb1 := Sat.holds hs1 [0, 1, 3, 5] rfl
            refine Reg.pures [0, 1, 3, 6, 7, 9] (fuel' := 8) hb1 rfl (by kernel_rfl) ?_
            refine Reg.load 2 0 (t := 3) (off := 1) (v := Value.int IntKind.i64 f) hb1 rfl (by kernel_rfl) (by kernel_rfl) (by kernel_rfl) ?_
            refine Reg.load 4 0 (t := 3) (off := 2) (v := Value.int IntKind.i64 t) hb1 rfl (by kernel_rfl) (by kernel_rfl) (by kernel_rfl) ?_
            refine Reg.load 8 0 (t := 3) (off := 1) (v := Value.int IntKind.i64 f) hb1 rfl (by kernel_rfl) (by kernel_rfl) (by kernel_rfl) ?_
            refine Reg.load 10 0 (t := 3) (off := 2) (v := Value.int IntKind.i64 t) hb1 rfl (by kernel_rfl) (by kernel_rfl) (by kernel_rfl) ?_
            refine Reg.step 5 (by kernel_rfl) (One.call 6 [1, 2] [0, 3, 4, 5] (g := 47) (args := [Value.pointer (some { block := nb, off := 0 }), Value.int IntKind.i64 f, Value.int IntKind.i64 t]) (by kernel_rfl) hs1 (c1) (by decide) rfl ?_)
            rintro _ _ w2 ⟨rfl, rfl⟩ hs2
            simp only [pickAll, List.filterMap_cons, List.filterMap_nil, List.getElem?_cons_zero, List.getElem?_cons_succ, List.cons_append, List.nil_append, List.drop_succ_cons, List.drop_zero] at hs2
            clear hs1
            have hb2 := Sat.holds hs2 [2, 0, 3, 5] (B := [cel b1 83 [Value.int IntKind.u8 kd, Value.int IntKind.i64 f, Value.int IntKind.i64 t, Value.string s, nv], cel nb 119 (netCells (↑d : Int) B), cel xb 123 (qCells (↑d : Int) (↑R : Int) A K X), old W]) rfl
            clear hb1
            refine ⟨hb2, ?_⟩
            refine Reg.step 11 (by kernel_rfl) (One.call 6 [3, 4] [0, 1, 2, 5] (g := 48) (args := [Value.pointer (some { block := xb, off := 0 }), Value.int IntKind.i64 f, Value.int IntKind.i64 t]) (by kernel_rfl) hs2 (c2) (by decide) rfl ?_)
            rintro _ _ w3 ⟨rfl, rfl⟩ hs1
            simp only [pickAll, List.filterMap_cons, List.filterMap_nil, List.getElem?_cons_zero, List.getElem?_cons_succ, List.cons_append, List.nil_append, List.drop_succ_cons, List.drop_zero] at hs1
            clear hs2
            have hb1 := Sat.holds hs1 [4, 2, 0, 5] (B := [cel b1 83 [Value.int IntKind.u8 kd, Value.int IntKind.i64 f, Value.int IntKind.i64 t, Value.string s, nv], cel nb 119 (netCells (↑d : Int) B), cel xb 123 (qCells (↑d : Int) (↑R : Int) A K X), old W]) rfl
            clear hb2
            refine ⟨hb1, ?_⟩
            refine Reg.pures [12, 13] (fuel' := 0) hb1 rfl (by kernel_rfl) ?_
            refine Reg.done (by kernel_rfl) ?_
            clear hb1
            refine To.run 1 ?_
            refine To.at (fn := Try.f7) (n := 27) (l := [(3, Value.slice al len cap), (9, Value.bool true), (10, Value.pointer (some { block := nb, off := 0 })), (12, Value.pointer (some { block := xb, off := 0 })), (13, Value.int IntKind.i64 (↑k : Int)), (14, Value.pointer (some { block := b1, off := 0 })), (15, Value.bool true)]) (by kernel_rfl) fun j => ?_
            exact NP_after W al len cap d R nb xb b1 B C _ _ _ hd1 hd4 hR k hk _ _ _ _ _ (hX) fin _ _ (hs1.get [4, 2, 3, 0, 1, 5] (by decide) rfl)
        · by_cases h : isLane d f t
          · have hl := h
            obtain ⟨a1, a2, a3, a4, a5⟩ := hl
            obtain ⟨g, rfl⟩ : ∃ g : Nat, f = g := ⟨f.toNat, by omega⟩
            obtain ⟨u, rfl⟩ : ∃ u : Nat, t = u := ⟨t.toNat, by omega⟩
            have eln : ln g u = g * 5 + u := by unfold ln; omega
            obtain ⟨ys, hy, hyl⟩ := hX (g * 5 + u)
            by_cases hr : ys.length < R
            · skip
              have c1 := NSendS_room nb R d g u B C X (by omega) h (by rw [eln, hy]; simp; omega) (.string s)
              rw [eln, hy, show ys.map Value.string ++ [Value.string s] = (ys ++ [s]).map Value.string by rw [List.map_append]; rfl] at c1
              have c2 := QSend_room xb d R g u s A K X (by omega) h ys hy (by omega) (by omega)
              refine To.run 1 ?_
              refine To.draw [cel b1 83 [Value.int IntKind.u8 kd, Value.int IntKind.i64 (↑g : Int), Value.int IntKind.i64 (↑u : Int), Value.string s, nv], cel nb 119 (netCells (↑d : Int) B), old W] 18 hs (by kernel_rfl) (by kernel_rfl) (by kernel_rfl) fun w1 hs1 => ?_
              clear hs
              have hb1 := Sat.holds hs1 [0, 1, 5] rfl
              refine Reg.pures [0, 1, 3, 5, 8, 9, 11, 13] (fuel' := 10) hb1 rfl (by kernel_rfl) ?_
              refine Reg.load 2 0 (t := 3) (off := 1) (v := Value.int IntKind.i64 (↑g : Int)) hb1 rfl (by kernel_rfl) (by kernel_rfl) (by kernel_rfl) ?_
              refine Reg.load 4 0 (t := 3) (off := 2) (v := Value.int IntKind.i64 (↑u : Int)) hb1 rfl (by kernel_rfl) (by kernel_rfl) (by kernel_rfl) ?_
              refine Reg.load 6 0 (t := 9) (off := 3) (v := Value.string s) hb1 rfl (by kernel_rfl) (by kernel_rfl) (by kernel_rfl) ?_
              refine Reg.load 10 0 (t := 3) (off := 1) (v := Value.int IntKind.i64 (↑g : Int)) hb1 rfl (by kernel_rfl) (by kernel_rfl) (by kernel_rfl) ?_
              refine Reg.load 12 0 (t := 3) (off := 2) (v := Value.int IntKind.i64 (↑u : Int)) hb1 rfl (by kernel_rfl) (by kernel_rfl) (by kernel_rfl) ?_
              refine Reg.load 14 0 (t := 9) (off := 3) (v := Value.string s) hb1 rfl (by kernel_rfl) (by kernel_rfl) (by kernel_rfl) ?_
              refine Reg.step 7 (by kernel_rfl) (One.call 6 [1, 2] [0, 3, 4, 5] (g := 49) (args := [Value.pointer (some { block := nb, off := 0 }), Value.int IntKind.i64 (↑g : Int), Value.int IntKind.i64 (↑u : Int), Value.string s]) (by kernel_rfl) hs1 (c1) (by decide) rfl ?_)
              rintro _ _ w2 ⟨rfl, rfl⟩ hs2
              simp only [pickAll, List.filterMap_cons, List.filterMap_nil, List.getElem?_cons_zero, List.getElem?_cons_succ, List.cons_append, List.nil_append, List.drop_succ_cons, List.drop_zero] at hs2
              clear hs1
              have hb2 := Sat.holds hs2 [2, 0, 5] (B := [cel b1 83 [Value.int IntKind.u8 kd, Value.int IntKind.i64 (↑g : Int), Value.int IntKind.i64 (↑u : Int), Value.string s, nv], cel nb 119 (netCells (↑d : Int) B), old W]) rfl
              clear hb1
              refine ⟨hb2, ?_⟩
              refine Reg.step 15 (by kernel_rfl) (One.call 6 [3, 4] [0, 1, 2, 5] (g := 50) (args := [Value.pointer (some { block := xb, off := 0 }), Value.int IntKind.i64 (↑g : Int), Value.int IntKind.i64 (↑u : Int), Value.string s]) (by kernel_rfl) hs2 (c2) (by decide) rfl ?_)
              rintro _ _ w3 ⟨A', K', rfl, rfl⟩ hs1
              simp only [pickAll, List.filterMap_cons, List.filterMap_nil, List.getElem?_cons_zero, List.getElem?_cons_succ, List.cons_append, List.nil_append, List.drop_succ_cons, List.drop_zero] at hs1
              clear hs2
              have hb1 := Sat.holds hs1 [4, 2, 5] (B := [cel b1 83 [Value.int IntKind.u8 kd, Value.int IntKind.i64 (↑g : Int), Value.int IntKind.i64 (↑u : Int), Value.string s, nv], cel nb 119 (netCells (↑d : Int) B), old W]) rfl
              clear hb2
              refine ⟨hb1, ?_⟩
              refine Reg.pures [16, 17] (fuel' := 0) hb1 rfl (by kernel_rfl) ?_
              refine Reg.done (by kernel_rfl) ?_
              clear hb1
              refine To.run 1 ?_
              refine To.at (fn := Try.f7) (n := 27) (l := [(3, Value.slice al len cap), (9, Value.bool true), (10, Value.pointer (some { block := nb, off := 0 })), (12, Value.pointer (some { block := xb, off := 0 })), (13, Value.int IntKind.i64 (↑k : Int)), (14, Value.pointer (some { block := b1, off := 0 })), (15, Value.bool true)]) (by kernel_rfl) fun j => ?_
              exact NP_after W al len cap d R nb xb b1 B C _ _ _ hd1 hd4 hR k hk _ _ _ _ _ (hX.put (g * 5 + u) (ys ++ [s]) (by simp at hyl ⊢; omega)) fin _ _ (hs1.get [4, 2, 3, 0, 1, 5] (by decide) rfl)
            · skip
              have c1 := NSendS_full nb R d g u B C X (by omega) h (by rw [eln, hy]; simp; omega) (.string s)
              have c2 := QSend_full xb d R g u s A K X (by omega) h (by rw [hy]; simp; omega)
              refine To.run 1 ?_
              refine To.draw [cel b1 83 [Value.int IntKind.u8 kd, Value.int IntKind.i64 (↑g : Int), Value.int IntKind.i64 (↑u : Int), Value.string s, nv], cel nb 119 (netCells (↑d : Int) B), cel xb 123 (qCells (↑d : Int) (↑R : Int) A K X), old W] 18 hs (by kernel_rfl) (by kernel_rfl) (by kernel_rfl) fun w1 hs1 => ?_
              clear hs
              have hb1 := Sat.holds hs1 [0, 1, 3, 5] rfl
              refine Reg.pures [0, 1, 3, 5, 8, 9, 11, 13] (fuel' := 10) hb1 rfl (by kernel_rfl) ?_
              refine Reg.load 2 0 (t := 3) (off := 1) (v := Value.int IntKind.i64 (↑g : Int)) hb1 rfl (by kernel_rfl) (by kernel_rfl) (by kernel_rfl) ?_
              refine Reg.load 4 0 (t := 3) (off := 2) (v := Value.int IntKind.i64 (↑u : Int)) hb1 rfl (by kernel_rfl) (by kernel_rfl) (by kernel_rfl) ?_
              refine Reg.load 6 0 (t := 9) (off := 3) (v := Value.string s) hb1 rfl (by kernel_rfl) (by kernel_rfl) (by kernel_rfl) ?_
              refine Reg.load 10 0 (t := 3) (off := 1) (v := Value.int IntKind.i64 (↑g : Int)) hb1 rfl (by kernel_rfl) (by kernel_rfl) (by kernel_rfl) ?_
              refine Reg.load 12 0 (t := 3) (off := 2) (v := Value.int IntKind.i64 (↑u : Int)) hb1 rfl (by kernel_rfl) (by kernel_rfl) (by kernel_rfl) ?_
              refine Reg.load 14 0 (t := 9) (off := 3) (v := Value.string s) hb1 rfl (by kernel_rfl) (by kernel_rfl) (by kernel_rfl) ?_
              refine Reg.step 7 (by kernel_rfl) (One.call 6 [1, 2] [0, 3, 4, 5] (g := 49) (args := [Value.pointer (some { block := nb, off := 0 }), Value.int IntKind.i64 (↑g : Int), Value.int IntKind.i64 (↑u : Int), Value.string s]) (by kernel_rfl) hs1 (c1) (by decide) rfl ?_)
              rintro _ _ w2 ⟨rfl, rfl⟩ hs2
              simp only [pickAll, List.filterMap_cons, List.filterMap_nil, List.getElem?_cons_zero, List.getElem?_cons_succ, List.cons_append, List.nil_append, List.drop_succ_cons, List.drop_zero] at hs2
              clear hs1
              have hb2 := Sat.holds hs2 [2, 0, 3, 5] (B := [cel b1 83 [Value.int IntKind.u8 kd, Value.int IntKind.i64 (↑g : Int), Value.int IntKind.i64 (↑u : Int), Value.string s, nv], cel nb 119 (netCells (↑d : Int) B), cel xb 123 (qCells (↑d : Int) (↑R : Int) A K X), old W]) rfl
              clear hb1
              refine ⟨hb2, ?_⟩
              refine Reg.step 15 (by kernel_rfl) (One.call 6 [3, 4] [0, 1, 2, 5] (g := 50) (args := [Value.pointer (some { block := xb, off := 0 }), Value.int IntKind.i64 (↑g : Int), Value.int IntKind.i64 (↑u : Int), Value.string s]) (by kernel_rfl) hs2 (c2) (by decide) rfl ?_)
              rintro _ _ w3 ⟨rfl, rfl⟩ hs1
              simp only [pickAll, List.filterMap_cons, List.filterMap_nil, List.getElem?_cons_zero, List.getElem?_cons_succ, List.cons_append, List.nil_append, List.drop_succ_cons, List.drop_zero] at hs1
              clear hs2
              have hb1 := Sat.holds hs1 [4, 2, 0, 5] (B := [cel b1 83 [Value.int IntKind.u8 kd, Value.int IntKind.i64 (↑g : Int), Value.int IntKind.i64 (↑u : Int), Value.string s, nv], cel nb 119 (netCells (↑d : Int) B), cel xb 123 (qCells (↑d : Int) (↑R : Int) A K X), old W]) rfl
              clear hb2
              refine ⟨hb1, ?_⟩
              refine Reg.pures [16, 17] (fuel' := 0) hb1 rfl (by kernel_rfl) ?_
              refine Reg.done (by kernel_rfl) ?_
              clear hb1
              refine To.run 1 ?_
              refine To.at (fn := Try.f7) (n := 27) (l := [(3, Value.slice al len cap), (9, Value.bool true), (10, Value.pointer (some { block := nb, off := 0 })), (12, Value.pointer (some { block := xb, off := 0 })), (13, Value.int IntKind.i64 (↑k : Int)), (14, Value.pointer (some { block := b1, off := 0 })), (15, Value.bool true)]) (by kernel_rfl) fun j => ?_
              exact NP_after W al len cap d R nb xb b1 B C _ _ _ hd1 hd4 hR k hk _ _ _ _ _ (hX) fin _ _ (hs1.get [4, 2, 3, 0, 1, 5] (by decide) rfl)
          · skip
            have c1 := NSendS_no nb R d f t B C X h (.string s)
            have c2 := QSend_no xb d R f t s A K X h
            refine To.run 1 ?_
            refine To.draw [cel b1 83 [Value.int IntKind.u8 kd, Value.int IntKind.i64 f, Value.int IntKind.i64 t, Value.string s, nv], cel nb 119 (netCells (↑d : Int) B), cel xb 123 (qCells (↑d : Int) (↑R : Int) A K X), old W] 18 hs (by kernel_rfl) (by kernel_rfl) (by kernel_rfl) fun w1 hs1 => ?_
            clear hs
            have hb1 := Sat.holds hs1 [0, 1, 3, 5] rfl
            refine Reg.pures [0, 1, 3, 5, 8, 9, 11, 13] (fuel' := 10) hb1 rfl (by kernel_rfl) ?_
            refine Reg.load 2 0 (t := 3) (off := 1) (v := Value.int IntKind.i64 f) hb1 rfl (by kernel_rfl) (by kernel_rfl) (by kernel_rfl) ?_
            refine Reg.load 4 0 (t := 3) (off := 2) (v := Value.int IntKind.i64 t) hb1 rfl (by kernel_rfl) (by kernel_rfl) (by kernel_rfl) ?_
            refine Reg.load 6 0 (t := 9) (off := 3) (v := Value.string s) hb1 rfl (by kernel_rfl) (by kernel_rfl) (by kernel_rfl) ?_
            refine Reg.load 10 0 (t := 3) (off := 1) (v := Value.int IntKind.i64 f) hb1 rfl (by kernel_rfl) (by kernel_rfl) (by kernel_rfl) ?_
            refine Reg.load 12 0 (t := 3) (off := 2) (v := Value.int IntKind.i64 t) hb1 rfl (by kernel_rfl) (by kernel_rfl) (by kernel_rfl) ?_
            refine Reg.load 14 0 (t := 9) (off := 3) (v := Value.string s) hb1 rfl (by kernel_rfl) (by kernel_rfl) (by kernel_rfl) ?_
            refine Reg.step 7 (by kernel_rfl) (One.call 6 [1, 2] [0, 3, 4, 5] (g := 49) (args := [Value.pointer (some { block := nb, off := 0 }), Value.int IntKind.i64 f, Value.int IntKind.i64 t, Value.string s]) (by kernel_rfl) hs1 (c1) (by decide) rfl ?_)
            rintro _ _ w2 ⟨rfl, rfl⟩ hs2
            simp only [pickAll, List.filterMap_cons, List.filterMap_nil, List.getElem?_cons_zero, List.getElem?_cons_succ, List.cons_append, List.nil_append, List.drop_succ_cons, List.drop_zero] at hs2
            clear hs1
            have hb2 := Sat.holds hs2 [2, 0, 3, 5] (B := [cel b1 83 [Value.int IntKind.u8 kd, Value.int IntKind.i64 f, Value.int IntKind.i64 t, Value.string s, nv], cel nb 119 (netCells (↑d : Int) B), cel xb 123 (qCells (↑d : Int) (↑R : Int) A K X), old W]) rfl
            clear hb1
            refine ⟨hb2, ?_⟩
            refine Reg.step 15 (by kernel_rfl) (One.call 6 [3, 4] [0, 1, 2, 5] (g := 50) (args := [Value.pointer (some { block := xb, off := 0 }), Value.int IntKind.i64 f, Value.int IntKind.i64 t, Value.string s]) (by kernel_rfl) hs2 (c2) (by decide) rfl ?_)
            rintro _ _ w3 ⟨rfl, rfl⟩ hs1
            simp only [pickAll, List.filterMap_cons, List.filterMap_nil, List.getElem?_cons_zero, List.getElem?_cons_succ, List.cons_append, List.nil_append, List.drop_succ_cons, List.drop_zero] at hs1
            clear hs2
            have hb1 := Sat.holds hs1 [4, 2, 0, 5] (B := [cel b1 83 [Value.int IntKind.u8 kd, Value.int IntKind.i64 f, Value.int IntKind.i64 t, Value.string s, nv], cel nb 119 (netCells (↑d : Int) B), cel xb 123 (qCells (↑d : Int) (↑R : Int) A K X), old W]) rfl
            clear hb2
            refine ⟨hb1, ?_⟩
            refine Reg.pures [16, 17] (fuel' := 0) hb1 rfl (by kernel_rfl) ?_
            refine Reg.done (by kernel_rfl) ?_
            clear hb1
            refine To.run 1 ?_
            refine To.at (fn := Try.f7) (n := 27) (l := [(3, Value.slice al len cap), (9, Value.bool true), (10, Value.pointer (some { block := nb, off := 0 })), (12, Value.pointer (some { block := xb, off := 0 })), (13, Value.int IntKind.i64 (↑k : Int)), (14, Value.pointer (some { block := b1, off := 0 })), (15, Value.bool true)]) (by kernel_rfl) fun j => ?_
            exact NP_after W al len cap d R nb xb b1 B C _ _ _ hd1 hd4 hR k hk _ _ _ _ _ (hX) fin _ _ (hs1.get [4, 2, 3, 0, 1, 5] (by decide) rfl)

theorem NP_loop (W : World) (al : Option Addr) (len cap : Nat) (hD : Deeds17 W al len) (hlen : len ≤ 9223372036854775807) (d R nb xb : Nat) (B C : Nat → Nat) (hd1 : 1 ≤ d) (hd4 : d ≤ 4) (hR1 : 1 ≤ R) (hR : R ≤ 16) :
    ∀ (m k : Nat) (A : Nat → Option Addr) (K : Nat → Nat) (X : Nat → List Value) (j : Nat → Value) (w : World), k + m = 70 → Strs X R → Sat W w (npKnow W d R nb xb B C A K X) →
    To Try.prog 7 (Cfg.here Try.f7 18 j [(3, .slice al len cap), (9, .bool true), (10, .pointer (some ⟨nb, 0, none⟩)), (12, .pointer (some ⟨xb, 0, none⟩)), (13, .int .i64 k)]) w (LawEnd W) := by
  intro m
  induction m with
  | zero =>
    intro k A K X j w hk hX hs
    obtain rfl : k = 70 := by omega
    by_cases hkl : 70 < len
    · refine To.run 8 ?_
      refine To.isTrue 66 (t := decide (70 < (↑len : Int))) (by kernel_rfl) (by (simp; omega)) ?_
      refine To.run 11 ?_
      refine To.retv Try.func7 (by kernel_rfl) (v := Value.bool true) (by kernel_rfl) ?_
      exact hs.lawEnd 4 rfl
    · refine To.run 8 ?_
      refine To.isFalse 66 (t := decide (70 < (↑len : Int))) (by kernel_rfl) (by (simp; omega)) ?_
      refine To.run 11 ?_
      refine To.retv Try.func7 (by kernel_rfl) (v := Value.bool true) (by kernel_rfl) ?_
      exact hs.lawEnd 4 rfl
  | succ m ih =>
    intro k A K X j w hk hX hs
    by_cases hkl : k < len
    · rcases hD with h0 | ⟨b, off, rfl, hd⟩
      · omega
      obtain ⟨kd, f, t, s, near, hk0, hk1, hc0, hc1, hc2, hc3, hc4⟩ := hd k hkl
      have fin := fun A K X j w hX hs => ih (k + 1) A K X j w (by omega) hX hs
      clear ih hd
      unfold npKnow at hs
      have q70 : k < 70 := by omega
      cases near with
      | true =>
        refine To.run 8 ?_
        refine To.isTrue 66 (t := decide ((↑k : Int) < (↑len : Int))) (by kernel_rfl) (by (simp; omega)) ?_
        refine To.run 4 ?_
        refine To.isTrue 69 (t := decide ((↑k : Int) < 70)) (by kernel_rfl) (by (simp; omega)) ?_
        refine To.run 8 ?_
        refine To.one (One.ixa (k) (off + (k) * 5) (t := 76) (b := b) (off := off) (len := len) (cap := cap) (e := 83) (sz := 5) (kd := IntKind.i64) (i := (↑k : Int)) (by kernel_rfl) (by kernel_rfl) (rfl) (by first | omega | (simp; done) | (simp; omega)) (by omega) ?_)
        refine To.one (One.loadAgg (t := 83) (b := b) (off := off + k * 5) [Value.int IntKind.u8 kd, Value.int IntKind.i64 f, Value.int IntKind.i64 t, Value.string s, Value.bool true] ⟨Sat.oldCell hs 4 rfl hc0, Sat.oldCell hs 4 rfl hc1, Sat.oldCell hs 4 rfl hc2, Sat.oldCell hs 4 rfl hc3, Sat.oldCell hs 4 rfl hc4, trivial⟩ (by kernel_rfl) (by kernel_rfl) ?_)
        refine To.one (One.alloc (t := 83) [Value.int IntKind.u8 0, Value.int IntKind.i64 0, Value.int IntKind.i64 0, Value.string { data := #[] }, Value.bool false] hs (by kernel_rfl) (by kernel_rfl) fun b1 w1 hs1 => ?_)
        clear hs
        refine To.one (One.store 0 (t := 83) (off := 0) (v := Value.agg #[Value.int IntKind.u8 kd, Value.int IntKind.i64 f, Value.int IntKind.i64 t, Value.string s, Value.bool true]) (vs' := [Value.int IntKind.u8 kd, Value.int IntKind.i64 f, Value.int IntKind.i64 t, Value.string s, Value.bool true]) hs1 rfl (by kernel_rfl) (by kernel_rfl) (by kernel_rfl) fun w2 hs2 => ?_)
        simp only [List.set_cons_zero, List.set_cons_succ] at hs2
        clear hs1
        refine To.run 5 ?_
        refine To.one (One.load 0 (t := 4) (off := 4) (v := Value.bool true) hs2 rfl (by kernel_rfl) (by kernel_rfl) ?_)
        refine To.run 5 ?_
        refine To.one (One.load 0 (t := 3) (off := 1) (v := Value.int IntKind.i64 f) hs2 rfl (by kernel_rfl) (by kernel_rfl) ?_)
        refine To.run 2 ?_
        refine To.one (One.store 0 (t := 3) (off := 1) (v := Value.int IntKind.i64 (f.tmod 6)) (vs' := [Value.int IntKind.u8 kd, Value.int IntKind.i64 (f.tmod 6), Value.int IntKind.i64 t, Value.string s, Value.bool true]) hs2 rfl (by kernel_rfl) (by kernel_rfl) (by kernel_rfl) fun w3 hs1 => ?_)
        simp only [List.set_cons_zero, List.set_cons_succ] at hs1
        clear hs2
        refine To.run 3 ?_
        refine To.one (One.load 0 (t := 3) (off := 2) (v := Value.int IntKind.i64 t) hs1 rfl (by kernel_rfl) (by kernel_rfl) ?_)
        refine To.run 2 ?_
        refine To.one (One.store 0 (t := 3) (off := 2) (v := Value.int IntKind.i64 (t.tmod 6)) (vs' := [Value.int IntKind.u8 kd, Value.int IntKind.i64 (f.tmod 6), Value.int IntKind.i64 (t.tmod 6), Value.string s, Value.bool true]) hs1 rfl (by kernel_rfl) (by kernel_rfl) (by kernel_rfl) fun w4 hs2 => ?_)
        simp only [List.set_cons_zero, List.set_cons_succ] at hs2
        clear hs1
        refine To.run 1 ?_
        refine To.at (fn := Try.f7) (n := 23) (l := [(3, Value.slice (some { block := b, off := off }) len cap), (9, Value.bool true), (10, Value.pointer (some { block := nb, off := 0 })), (12, Value.pointer (some { block := xb, off := 0 })), (13, Value.int IntKind.i64 (↑k : Int)), (14, Value.pointer (some { block := b1, off := 0 }))]) (by kernel_rfl) fun j => ?_
        exact NP_mid W _ len cap d R nb xb b1 B C A K X hd1 hd4 hR1 hR k q70 kd _ _ hk0 hk1 s _ hX fin _ _ hs2
      | false =>
        refine To.run 8 ?_
        refine To.isTrue 66 (t := decide ((↑k : Int) < (↑len : Int))) (by kernel_rfl) (by (simp; omega)) ?_
        refine To.run 4 ?_
        refine To.isTrue 69 (t := decide ((↑k : Int) < 70)) (by kernel_rfl) (by (simp; omega)) ?_
        refine To.run 8 ?_
        refine To.one (One.ixa (k) (off + (k) * 5) (t := 76) (b := b) (off := off) (len := len) (cap := cap) (e := 83) (sz := 5) (kd := IntKind.i64) (i := (↑k : Int)) (by kernel_rfl) (by kernel_rfl) (rfl) (by first | omega | (simp; done) | (simp; omega)) (by omega) ?_)
        refine To.one (One.loadAgg (t := 83) (b := b) (off := off + k * 5) [Value.int IntKind.u8 kd, Value.int IntKind.i64 f, Value.int IntKind.i64 t, Value.string s, Value.bool false] ⟨Sat.oldCell hs 4 rfl hc0, Sat.oldCell hs 4 rfl hc1, Sat.oldCell hs 4 rfl hc2, Sat.oldCell hs 4 rfl hc3, Sat.oldCell hs 4 rfl hc4, trivial⟩ (by kernel_rfl) (by kernel_rfl) ?_)
        refine To.one (One.alloc (t := 83) [Value.int IntKind.u8 0, Value.int IntKind.i64 0, Value.int IntKind.i64 0, Value.string { data := #[] }, Value.bool false] hs (by kernel_rfl) (by kernel_rfl) fun b1 w1 hs1 => ?_)
        clear hs
        refine To.one (One.store 0 (t := 83) (off := 0) (v := Value.agg #[Value.int IntKind.u8 kd, Value.int IntKind.i64 f, Value.int IntKind.i64 t, Value.string s, Value.bool false]) (vs' := [Value.int IntKind.u8 kd, Value.int IntKind.i64 f, Value.int IntKind.i64 t, Value.string s, Value.bool false]) hs1 rfl (by kernel_rfl) (by kernel_rfl) (by kernel_rfl) fun w2 hs2 => ?_)
        simp only [List.set_cons_zero, List.set_cons_succ] at hs2
        clear hs1
        refine To.run 5 ?_
        refine To.one (One.load 0 (t := 4) (off := 4) (v := Value.bool false) hs2 rfl (by kernel_rfl) (by kernel_rfl) ?_)
        refine To.run 3 ?_
        refine To.at (fn := Try.f7) (n := 23) (l := [(3, Value.slice (some { block := b, off := off }) len cap), (9, Value.bool true), (10, Value.pointer (some { block := nb, off := 0 })), (12, Value.pointer (some { block := xb, off := 0 })), (13, Value.int IntKind.i64 (↑k : Int)), (14, Value.pointer (some { block := b1, off := 0 }))]) (by kernel_rfl) fun j => ?_
        exact NP_mid W _ len cap d R nb xb b1 B C A K X hd1 hd4 hR1 hR k q70 kd _ _ hk0 hk1 s _ hX fin _ _ hs2
    · refine To.run 8 ?_
      refine To.isFalse 66 (t := decide ((↑k : Int) < (↑len : Int))) (by kernel_rfl) (by (simp; omega)) ?_
      refine To.run 11 ?_
      refine To.retv Try.func7 (by kernel_rfl) (v := Value.bool true) (by kernel_rfl) ?_
      exact hs.lawEnd 4 rfl

theorem nearN (q : Nat) (hq1 : 1 ≤ q) (hq : q ≤ 16) (a : Int) : ∃ r : Nat, Value.int .i64 (IntKind.i64.wrap (1 + IntKind.i64.wrap ((IntKind.u64.wrap a).tmod q))) = Value.int .i64 r ∧ 1 ≤ r ∧ r ≤ q := by
  have h0 : 0 ≤ IntKind.u64.wrap a := by rw [IntKind.wrap_u64]; omega
  have h1 : (IntKind.u64.wrap a).tmod q = IntKind.u64.wrap a % q := Int.tmod_eq_emod_of_nonneg h0
  have h2 := Int.emod_nonneg (IntKind.u64.wrap a) (show (q : Int) ≠ 0 by omega)
  have h3 := Int.emod_lt_of_pos (IntKind.u64.wrap a) (show (0 : Int) < q by omega)
  refine ⟨(1 + IntKind.u64.wrap a % q).toNat, ?_, by omega, by omega⟩
  rw [h1, wrap_i64 (e := IntKind.u64.wrap a % q) (by omega) (by omega), wrap_i64 (by omega) (by omega)]
  congr 1
  omega

theorem NP_law (W : World) (dcs room : Int) (near : Bool) (al : Option Addr) (len cap : Nat) (hD : Deeds17 W al len) (hlen : len ≤ 9223372036854775807) :
    Calls Try.prog 7 #[.int .i64 dcs, .int .i64 room, .bool near, .slice al len cap] W (LawEnd W) := by
  refine Sx.start (args := [_, _, _, _]) Try.func7 (by kernel_rfl) ?_
  have hs := Sat.start W
  cases near with
  | true =>
    obtain ⟨d, hd, hd1, hd4⟩ := nearN 4 (by decide) (by decide) dcs
    obtain ⟨R, hr, hR1, hR5⟩ := nearN 5 (by decide) (by decide) room
    have hR : R ≤ 16 := by omega
    clear hR5
    refine To.run 6 ?_
    refine To.one (One.call 1 [] [0] (g := 39) (args := []) (by kernel_rfl) hs (examples17_ok) (by decide) rfl ?_)
    rintro _ _ w1 ⟨rfl, rfl⟩ hs1
    simp only [pickAll, List.filterMap_cons, List.filterMap_nil, List.getElem?_cons_zero, List.getElem?_cons_succ, List.cons_append, List.nil_append, List.drop_succ_cons, List.drop_zero] at hs1
    clear hs
    refine To.run 20 ?_
    refine To.run 2 ?_
    refine To.run 1 ?_
    refine To.run 5 ?_
    refine To.run 2 ?_
    refine To.run 1 ?_
    refine To.run 6 ?_
    refine To.known 0 _ (by kernel_rfl) hd ?_
    refine To.known 37 _ (by kernel_rfl) hd ?_
    refine To.known 1 _ (by kernel_rfl) hr ?_
    refine To.known 38 _ (by kernel_rfl) hr ?_
    clear hd hr
    refine To.one (One.call 1 [] [0] (g := 40) (args := [Value.int IntKind.i64 (↑d : Int), Value.int IntKind.i64 (↑R : Int)]) (by kernel_rfl) hs1 (NNewS_ok ((↑d : Int)) ((↑R : Int)) (by omega) (by omega) (by omega) (by omega)) (by decide) rfl ?_)
    rintro _ _ w2 ⟨nb, B, C, rfl, rfl⟩ hs2
    simp only [pickAll, List.filterMap_cons, List.filterMap_nil, List.getElem?_cons_zero, List.getElem?_cons_succ, List.cons_append, List.nil_append, List.drop_succ_cons, List.drop_zero] at hs2
    clear hs1
    refine To.run 10 ?_
    refine To.one (One.call 3 [] [0, 1, 2] (g := 41) (args := [Value.int IntKind.i64 (↑d : Int), Value.int IntKind.i64 (↑R : Int)]) (by kernel_rfl) hs2 (QNew_ok ((↑d : Int)) ((↑R : Int)) (by omega) (by omega) (by omega) (by omega)) (by decide) rfl ?_)
    rintro _ _ w3 ⟨xb, rfl, rfl⟩ hs1
    simp only [pickAll, List.filterMap_cons, List.filterMap_nil, List.getElem?_cons_zero, List.getElem?_cons_succ, List.cons_append, List.nil_append, List.drop_succ_cons, List.drop_zero] at hs1
    clear hs2
    refine To.run 28 ?_
    refine To.run 1 ?_
    refine To.at (fn := Try.f7) (n := 18) (l := [(3, Value.slice al len cap), (9, Value.bool true), (10, Value.pointer (some { block := nb, off := 0 })), (12, Value.pointer (some { block := xb, off := 0 })), (13, Value.int IntKind.i64 0)]) (by kernel_rfl) fun j => ?_
    exact NP_loop W al len cap hD hlen d R nb xb B C hd1 hd4 hR1 hR 70 0 _ _ _ j _ (by omega) (fun _ => ⟨[], rfl, by simp⟩) (hs1.get [2, 3, 0, 1, 4] (by decide) rfl)
  | false =>
    by_cases hv : 1 ≤ dcs ∧ dcs ≤ 4 ∧ 1 ≤ room ∧ room ≤ 16
    · obtain ⟨h1, h2, h3, h4⟩ := hv
      obtain ⟨d, rfl⟩ : ∃ d : Nat, dcs = d := ⟨dcs.toNat, by omega⟩
      obtain ⟨R, rfl⟩ : ∃ d : Nat, room = d := ⟨room.toNat, by omega⟩
      refine To.run 6 ?_
      refine To.one (One.call 1 [] [0] (g := 39) (args := []) (by kernel_rfl) hs (examples17_ok) (by decide) rfl ?_)
      rintro _ _ w1 ⟨rfl, rfl⟩ hs1
      simp only [pickAll, List.filterMap_cons, List.filterMap_nil, List.getElem?_cons_zero, List.getElem?_cons_succ, List.cons_append, List.nil_append, List.drop_succ_cons, List.drop_zero] at hs1
      clear hs
      refine To.run 21 ?_
      refine To.one (One.call 1 [] [0] (g := 40) (args := [Value.int IntKind.i64 (↑d : Int), Value.int IntKind.i64 (↑R : Int)]) (by kernel_rfl) hs1 (NNewS_ok ((↑d : Int)) ((↑R : Int)) (by assumption) (by assumption) (by assumption) (by assumption)) (by decide) rfl ?_)
      rintro _ _ w2 ⟨nb, B, C, rfl, rfl⟩ hs2
      simp only [pickAll, List.filterMap_cons, List.filterMap_nil, List.getElem?_cons_zero, List.getElem?_cons_succ, List.cons_append, List.nil_append, List.drop_succ_cons, List.drop_zero] at hs2
      clear hs1
      refine To.run 10 ?_
      refine To.one (One.call 3 [] [0, 1, 2] (g := 41) (args := [Value.int IntKind.i64 (↑d : Int), Value.int IntKind.i64 (↑R : Int)]) (by kernel_rfl) hs2 (QNew_ok ((↑d : Int)) ((↑R : Int)) (by assumption) (by assumption) (by assumption) (by assumption)) (by decide) rfl ?_)
      rintro _ _ w3 ⟨xb, rfl, rfl⟩ hs1
      simp only [pickAll, List.filterMap_cons, List.filterMap_nil, List.getElem?_cons_zero, List.getElem?_cons_succ, List.cons_append, List.nil_append, List.drop_succ_cons, List.drop_zero] at hs1
      clear hs2
      refine To.run 28 ?_
      refine To.run 1 ?_
      refine To.at (fn := Try.f7) (n := 18) (l := [(3, Value.slice al len cap), (9, Value.bool true), (10, Value.pointer (some { block := nb, off := 0 })), (12, Value.pointer (some { block := xb, off := 0 })), (13, Value.int IntKind.i64 0)]) (by kernel_rfl) fun j => ?_
      exact NP_loop W al len cap hD hlen d R nb xb B C (by omega) (by omega) (by omega) (by omega) 70 0 _ _ _ j _ (by omega) (fun _ => ⟨[], rfl, by simp⟩) (hs1.get [2, 3, 0, 1, 4] (by decide) rfl)
    · by_cases h1 : dcs < 1 ∨ 4 < dcs
      · have h5 : dcs < 1 ∨ 4 < dcs ∨ room < 1 ∨ 16 < room := by omega
        refine To.run 6 ?_
        refine To.one (One.call 1 [] [0] (g := 39) (args := []) (by kernel_rfl) hs (examples17_ok) (by decide) rfl ?_)
        rintro _ _ w1 ⟨rfl, rfl⟩ hs1
        simp only [pickAll, List.filterMap_cons, List.filterMap_nil, List.getElem?_cons_zero, List.getElem?_cons_succ, List.cons_append, List.nil_append, List.drop_succ_cons, List.drop_zero] at hs1
        clear hs
        refine To.run 21 ?_
        refine To.one (One.call 1 [] [0] (g := 40) (args := [Value.int IntKind.i64 dcs, Value.int IntKind.i64 room]) (by kernel_rfl) hs1 (NNewS_dcs (dcs) (room) (by assumption)) (by decide) rfl ?_)
        rintro _ _ w2 ⟨rfl, rfl⟩ hs2
        simp only [pickAll, List.filterMap_cons, List.filterMap_nil, List.getElem?_cons_zero, List.getElem?_cons_succ, List.cons_append, List.nil_append, List.drop_succ_cons, List.drop_zero] at hs2
        clear hs1
        refine To.run 10 ?_
        refine To.one (One.call 1 [] [0] (g := 41) (args := [Value.int IntKind.i64 dcs, Value.int IntKind.i64 room]) (by kernel_rfl) hs2 (QNew_bad (dcs) (room) (by assumption)) (by decide) rfl ?_)
        rintro _ _ w3 ⟨rfl, rfl⟩ hs1
        simp only [pickAll, List.filterMap_cons, List.filterMap_nil, List.getElem?_cons_zero, List.getElem?_cons_succ, List.cons_append, List.nil_append, List.drop_succ_cons, List.drop_zero] at hs1
        clear hs2
        refine To.run 22 ?_
        refine To.retv Try.func7 (by kernel_rfl) (v := Value.bool true) (by kernel_rfl) ?_
        exact hs1.lawEnd 0 rfl
      · have h5 : dcs < 1 ∨ 4 < dcs ∨ room < 1 ∨ 16 < room := by omega
        have h6 : room < 1 ∨ 16 < room := by omega
        refine To.run 6 ?_
        refine To.one (One.call 1 [] [0] (g := 39) (args := []) (by kernel_rfl) hs (examples17_ok) (by decide) rfl ?_)
        rintro _ _ w1 ⟨rfl, rfl⟩ hs1
        simp only [pickAll, List.filterMap_cons, List.filterMap_nil, List.getElem?_cons_zero, List.getElem?_cons_succ, List.cons_append, List.nil_append, List.drop_succ_cons, List.drop_zero] at hs1
        clear hs
        refine To.run 21 ?_
        refine To.one (One.call 1 [] [0] (g := 40) (args := [Value.int IntKind.i64 dcs, Value.int IntKind.i64 room]) (by kernel_rfl) hs1 (NNewS_room (dcs) (room) (by omega) (by omega) (by assumption)) (by decide) rfl ?_)
        rintro _ _ w2 ⟨rfl, rfl⟩ hs2
        simp only [pickAll, List.filterMap_cons, List.filterMap_nil, List.getElem?_cons_zero, List.getElem?_cons_succ, List.cons_append, List.nil_append, List.drop_succ_cons, List.drop_zero] at hs2
        clear hs1
        refine To.run 10 ?_
        refine To.one (One.call 1 [] [0] (g := 41) (args := [Value.int IntKind.i64 dcs, Value.int IntKind.i64 room]) (by kernel_rfl) hs2 (QNew_bad (dcs) (room) (by assumption)) (by decide) rfl ?_)
        rintro _ _ w3 ⟨rfl, rfl⟩ hs1
        simp only [pickAll, List.filterMap_cons, List.filterMap_nil, List.getElem?_cons_zero, List.getElem?_cons_succ, List.cons_append, List.nil_append, List.drop_succ_cons, List.drop_zero] at hs1
        clear hs2
        refine To.run 22 ?_
        refine To.retv Try.func7 (by kernel_rfl) (v := Value.bool true) (by kernel_rfl) ?_
        exact hs1.lawEnd 0 rfl
end Go.Proofs.Ythojpcfaaiefhaa
