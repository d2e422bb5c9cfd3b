import Derived.Test.YthojpcfaaiefhaaProg
import Derived.Test.YthojpcfaaiefhaaSxLaw
import Derived.Test.YthojpcfaaiefhaaLex
set_option linter.unusedSimpArgs false
set_option linter.unusedVariables false
namespace Go.Proofs.Ythojpcfaaiefhaa
open Go Go.Sx
set_option linter.unusedSimpArgs false
set_option maxHeartbeats 0

theorem DrainS_none (b c cap : Nat) : Trip Try.prog 27 [.pointer (some ⟨b, 0, none⟩)] [cel b 106 [.chan (some c)], chn c cap []] (fun v l => ∃ s p, v = .slice s 0 p ∧ l = [cel b 106 [.chan (some c)], chn c cap [], row s p 9 []]) :=
  DrainS_ok b c cap [] (by simp)

/-- The texts that are told. -/
def Texts (W : World) (al : Option Addr) (xs : List ByteArray) : Prop :=
  ∀ i x, xs[i]? = some x → ∃ b off, al = some ⟨b, off, none⟩ ∧ W.cell? ⟨b, off + i, none⟩ = some (.string x)

theorem exists_list {α : Type} (Q : Nat → α → Prop) : ∀ (n : Nat), (∀ i, i < n → ∃ x, Q i x) → ∃ xs : List α, xs.length = n ∧ ∀ i x, xs[i]? = some x → Q i x
  | 0, _ => ⟨[], rfl, fun i x h => by simp at h⟩
  | n + 1, h => by
    obtain ⟨xs, hl, hq⟩ := exists_list Q n (fun i hi => h i (by omega))
    obtain ⟨x, hx⟩ := h n (by omega)
    refine ⟨xs ++ [x], by simp [hl], fun i y hy => ?_⟩
    rw [List.getElem?_append] at hy
    split at hy
    · exact hq i y hy
    · rename_i hn
      have hi : i = n := by
        have := (List.getElem?_eq_some_iff.1 hy).1
        simp at this
        omega
      subst hi
      rw [hl] at hy
      simp at hy
      subst hy
      exact hx

/-- k of a room. -/
theorem near16 (a : Int) (h0 : 0 ≤ a) (h1 : a ≤ 255) : ∃ r : Int, Value.int .i64 (IntKind.i64.wrap (1 + IntKind.i64.wrap (a.tmod 16))) = Value.int .i64 r ∧ 1 ≤ r ∧ r ≤ 16 := by
  have h2 : a.tmod 16 = a % 16 := Int.tmod_eq_emod_of_nonneg h0
  refine ⟨1 + a % 16, ?_, by omega, by omega⟩
  rw [h2, wrap_i64 (e := a % 16) (by omega) (by omega), wrap_i64 (by omega) (by omega)]

theorem LO_fill (W : World) (al : Option Addr) (cap : Nat) (bA cA : Nat) (r : Int) (hr1 : 1 ≤ r) (hr2 : r ≤ 16) (xs : List ByteArray) (hx : Texts W al xs) (hm : xs.length ≤ 40)
    (ih : ∀ (j : Nat → Value) (w : World), Sat W w [cel bA 106 [.chan (some cA)], chn cA r.toNat ((xs.take r.toNat).map Value.string), old W] →
      To Try.prog 4 (Cfg.here Try.f4 13 j [(1, .slice al xs.length cap), (5, .bool true), (6, .int .i64 r), (7, .pointer (some ⟨bA, 0, none⟩)), (9, .int .i64 xs.length)]) w (LawEnd W)) :
    ∀ (m k : Nat) (j : Nat → Value) (w : World), k + m = xs.length →
    Sat W w [cel bA 106 [.chan (some cA)], chn cA r.toNat (((xs.take k).take r.toNat).map Value.string), old W] →
    To Try.prog 4 (Cfg.here Try.f4 13 j [(1, .slice al xs.length cap), (5, .bool true), (6, .int .i64 r), (7, .pointer (some ⟨bA, 0, none⟩)), (9, .int .i64 k)]) w (LawEnd W) := by
  intro m
  induction m with
  | zero =>
    intro k j w hk hs
    obtain rfl : k = xs.length := by omega
    rw [List.take_length] at hs
    exact ih j w hs
  | succ m ihm =>
    intro k j w hk hs
    obtain ⟨b, off, rfl, hc⟩ := hx k _ (List.getElem?_eq_getElem (show k < xs.length by omega))
    have hrr : ((r.toNat : Nat) : Int) = r := by omega
    by_cases hkr : k < r
    · have e1 : (xs.take k).take r.toNat = xs.take k := List.take_of_length_le (by simp; omega)
      rw [e1] at hs
      have hlen : (List.map Value.string (xs.take k)).length < r.toNat := by simp; omega
      refine To.run 8 ?_
      refine To.isTrue 43 (t := decide ((↑k : Int) < (↑xs.length : Int))) (by kernel_rfl) (by (simp; omega)) ?_
      refine To.run 9 ?_
      refine To.one (One.ixa (k) (off + (k)) (t := 42) (b := b) (off := off) (len := xs.length) (cap := cap) (e := 9) (sz := 1) (kd := IntKind.i64) (i := (↑k : Int)) (by kernel_rfl) (by kernel_rfl) (rfl) (by first | omega | (simp; done) | (simp; omega)) (by omega) ?_)
      refine To.one (One.loadc (t := 9) (a := ⟨b, off + k, none⟩) (v := Value.string xs[k]) (Sat.oldCell hs 2 rfl hc) (by kernel_rfl) (by kernel_rfl) ?_)
      refine To.one (One.call 3 [0, 1] [2] (g := 24) (args := [Value.pointer (some { block := bA, off := 0 }), Value.string xs[k]]) (by kernel_rfl) hs (PutS_room (bA) (cA) (r.toNat) (List.map Value.string (List.take k xs)) (Value.string xs[k]) (by assumption)) (by decide) rfl ?_)
      rintro _ _ w1 ⟨rfl, rfl⟩ hs1
      simp only [pickAll, List.filterMap_cons, List.filterMap_nil, List.getElem?_cons_zero, List.getElem?_cons_succ, List.cons_append, List.nil_append, List.drop_succ_cons, List.drop_zero] at hs1
      clear hs
      refine To.run 5 ?_
      refine To.isFalse 55 (t := !true == decide ((↑k : Int) < r)) (by kernel_rfl) (by (simp; omega)) ?_
      refine To.run 6 ?_
      refine To.known 45 (v := .int .i64 (IntKind.i64.wrap ((↑k : Int) + 1))) (.int .i64 ((↑k : Int) + 1)) (by kernel_rfl) (by rw [wrap_i64 (by omega) (by omega)]) ?_
      refine To.run 2 ?_
      refine To.run 1 ?_
      refine To.at (fn := Try.f4) (n := 13) (l := [(1, Value.slice (some { block := b, off := off }) xs.length cap), (5, Value.bool true), (6, Value.int IntKind.i64 r), (7, Value.pointer (some { block := bA, off := 0 })), (9, Value.int IntKind.i64 ((↑k : Int) + 1))]) (by kernel_rfl) fun j => ?_
      refine ihm (k + 1) _ _ (by omega) ?_
      have e2 : (xs.take (k + 1)).take r.toNat = xs.take k ++ [xs[k]'(by omega)] := by
        rw [List.take_of_length_le (by simp; omega), List.take_succ_eq_append_getElem (by omega)]
      rw [e2, List.map_append]
      exact hs1
    · have hlen : r.toNat ≤ (List.map Value.string ((xs.take k).take r.toNat)).length := by simp; omega
      refine To.run 8 ?_
      refine To.isTrue 43 (t := decide ((↑k : Int) < (↑xs.length : Int))) (by kernel_rfl) (by (simp; omega)) ?_
      refine To.run 9 ?_
      refine To.one (One.ixa (k) (off + (k)) (t := 42) (b := b) (off := off) (len := xs.length) (cap := cap) (e := 9) (sz := 1) (kd := IntKind.i64) (i := (↑k : Int)) (by kernel_rfl) (by kernel_rfl) (rfl) (by first | omega | (simp; done) | (simp; omega)) (by omega) ?_)
      refine To.one (One.loadc (t := 9) (a := ⟨b, off + k, none⟩) (v := Value.string xs[k]) (Sat.oldCell hs 2 rfl hc) (by kernel_rfl) (by kernel_rfl) ?_)
      refine To.one (One.call 3 [0, 1] [2] (g := 24) (args := [Value.pointer (some { block := bA, off := 0 }), Value.string xs[k]]) (by kernel_rfl) hs (PutS_full (bA) (cA) (r.toNat) (List.map Value.string (List.take r.toNat (List.take k xs))) (Value.string xs[k]) (by assumption)) (by decide) rfl ?_)
      rintro _ _ w1 ⟨rfl, rfl⟩ hs1
      simp only [pickAll, List.filterMap_cons, List.filterMap_nil, List.getElem?_cons_zero, List.getElem?_cons_succ, List.cons_append, List.nil_append, List.drop_succ_cons, List.drop_zero] at hs1
      clear hs
      refine To.run 5 ?_
      refine To.isFalse 55 (t := !false == decide ((↑k : Int) < r)) (by kernel_rfl) (by (simp; omega)) ?_
      refine To.run 8 ?_
      refine To.run 1 ?_
      refine To.at (fn := Try.f4) (n := 13) (l := [(1, Value.slice (some { block := b, off := off }) xs.length cap), (5, Value.bool true), (6, Value.int IntKind.i64 r), (7, Value.pointer (some { block := bA, off := 0 })), (9, Value.int IntKind.i64 (IntKind.i64.wrap ((↑k : Int) + 1)))]) (by kernel_rfl) fun j => ?_
      rw [wrap_i64 (e := (k : Int) + 1) (by omega) (by omega)]
      refine ihm (k + 1) _ _ (by omega) ?_
      have e2 : (xs.take (k + 1)).take r.toNat = (xs.take k).take r.toNat := by
        rw [List.take_take, List.take_take]
        congr 1
        omega
      rw [e2]
      exact hs1

theorem LO_second (W : World) (al : Option Addr) (len cap : Nat) (bA cA R : Nat) (hR : 0 < R) (rest : List ByteArray) (hrl : rest.length ≤ 40) (hx : ∀ i y, rest[i]? = some y → i + 1 < len ∧ ∃ b off, al = some ⟨b, off, none⟩ ∧ W.cell? ⟨b, off + (i + 1), none⟩ = some (.string y)) (s : Option Addr) (p : Nat) :
    ∀ (m k : Nat) (j : Nat → Value) (w : World), k + m = rest.length →
    Sat W w [cel bA 106 [.chan (some cA)], chn cA R [], seg s p 9 (rest.map Value.string), old W] →
    To Try.prog 4 (Cfg.here Try.f4 27 j [(1, .slice al len cap), (5, .bool true), (7, .pointer (some ⟨bA, 0, none⟩)), (13, .slice s rest.length p), (14, .int .i64 k)]) w (LawEnd W) := by
  intro m
  induction m with
  | zero =>
    intro k j w hk hs
    obtain rfl : k = rest.length := by omega
    refine To.run 8 ?_
    refine To.isFalse 98 (t := decide ((↑rest.length : Int) < (↑rest.length : Int))) (by kernel_rfl) (by simp) ?_
    refine To.run 5 ?_
    refine To.one (One.call 4 [0, 1] [2, 3] (g := 26) (args := [Value.pointer (some { block := bA, off := 0 })]) (by kernel_rfl) hs (TakeS_none (bA) (cA) (R)) (by decide) rfl ?_)
    rintro _ _ w1 ⟨rfl, rfl⟩ hs1
    simp only [pickAll, List.filterMap_cons, List.filterMap_nil, List.getElem?_cons_zero, List.getElem?_cons_succ, List.cons_append, List.nil_append, List.drop_succ_cons, List.drop_zero] at hs1
    clear hs
    refine To.run 15 ?_
    refine To.one (One.call 4 [0, 1] [2, 3] (g := 25) (args := [Value.pointer (some { block := bA, off := 0 })]) (by kernel_rfl) hs1 (LenS_ok (bA) (cA) (R) ([])) (by decide) rfl ?_)
    rintro _ _ w2 ⟨rfl, rfl⟩ hs2
    simp only [pickAll, List.filterMap_cons, List.filterMap_nil, List.getElem?_cons_zero, List.getElem?_cons_succ, List.cons_append, List.nil_append, List.drop_succ_cons, List.drop_zero] at hs2
    clear hs1
    refine To.run 4 ?_
    refine To.one (One.call 4 [0, 1] [2, 3] (g := 24) (args := [Value.pointer (some { block := bA, off := 0 }), Value.string { data := #[97, 103, 97, 105, 110] }]) (by kernel_rfl) hs2 (PutS_room (bA) (cA) (R) ([]) (Value.string { data := #[97, 103, 97, 105, 110] }) (by assumption)) (by decide) rfl ?_)
    rintro _ _ w3 ⟨rfl, rfl⟩ hs1
    simp only [pickAll, List.filterMap_cons, List.filterMap_nil, List.getElem?_cons_zero, List.getElem?_cons_succ, List.cons_append, List.nil_append, List.drop_succ_cons, List.drop_zero] at hs1
    clear hs2
    refine To.run 3 ?_
    refine To.retv Try.func4 (by kernel_rfl) (v := Value.bool true) (by kernel_rfl) ?_
    exact hs1.lawEnd 3 rfl
  | succ m ih =>
    intro k j w hk hs
    obtain ⟨hkl, b, off, rfl, hc⟩ := hx k _ (List.getElem?_eq_getElem (show k < rest.length by omega))
    obtain ⟨gs, os', rfl⟩ := hs.segAddr 2 rfl (by simp; omega)
    have hzq : (rest.map Value.string)[k]? = some (.string (rest[k]'(by omega))) := by simp [show k < rest.length by omega]
    refine To.run 8 ?_
    refine To.isTrue 98 (t := decide ((↑k : Int) < (↑rest.length : Int))) (by kernel_rfl) (by (simp; omega)) ?_
    refine To.run 5 ?_
    refine To.draw [cel bA 106 [Value.chan (some cA)], seg (some { block := gs, off := os' }) p 9 (List.map Value.string rest), old W] 10 hs (by kernel_rfl) (by kernel_rfl) (by kernel_rfl) fun w1 hs1 => ?_
    clear hs
    have hb1 := Sat.holds hs1 [0, 2, 3] rfl
    refine Reg.pures [0, 1, 4, 5, 6] (fuel' := 5) hb1 rfl (by kernel_rfl) ?_
    refine Reg.known 107 (v := .int .i64 (IntKind.i64.wrap ((↑k : Int) + 1))) (.int .i64 ((↑k : Int) + 1)) (by kernel_rfl) (by rw [wrap_i64 (by omega) (by omega)]) ?_
    refine Reg.val 2 hb1 (by kernel_rfl) (by kernel_rfl) (fun w' hw' => Val.ixa (k) (os' + (k)) (t := 42) (b := gs) (off := os') (len := rest.length) (cap := p) (e := 9) (sz := 1) (kd := IntKind.i64) (i := (↑k : Int)) (by kernel_rfl) (by kernel_rfl) (rfl) (by first | omega | (simp; done) | (simp; omega)) (by omega)) ?_
    refine Reg.loadSeg 3 1 (k) (t := 9) (off := os' + k) (v := Value.string rest[k]) hb1 rfl (by kernel_rfl) (by kernel_rfl) (by first | rfl | omega) (hzq) (by kernel_rfl) ?_
    refine Reg.step 7 (by kernel_rfl) (One.ixa (k + 1) (off + (k + 1)) (t := 42) (b := b) (off := off) (len := len) (cap := cap) (e := 9) (sz := 1) (kd := IntKind.i64) (i := (↑k : Int) + 1) (by kernel_rfl) (by kernel_rfl) (by rfl) (by first | omega | (simp; done) | (simp; omega)) (by omega) ?_)
    have hb2 := Sat.holds hs1 [0, 2, 3] (B := [cel bA 106 [Value.chan (some cA)], seg (some { block := gs, off := os' }) p 9 (List.map Value.string rest), old W]) rfl
    clear hb1
    refine ⟨hb2, ?_⟩
    refine Reg.step 8 (by kernel_rfl) (One.loadc (t := 9) (a := ⟨b, off + (k + 1), none⟩) (v := Value.string rest[k]) (Sat.oldCell hs1 3 rfl hc) (by kernel_rfl) (by kernel_rfl) ?_)
    have hb1 := Sat.holds hs1 [0, 2, 3] (B := [cel bA 106 [Value.chan (some cA)], seg (some { block := gs, off := os' }) p 9 (List.map Value.string rest), old W]) rfl
    clear hb2
    refine ⟨hb1, ?_⟩
    refine Reg.pures [9] (fuel' := 0) hb1 rfl (by kernel_rfl) ?_
    refine Reg.done (by kernel_rfl) ?_
    clear hb1
    refine To.isFalse 110 (t := !rest[k].toList == rest[k].toList) (by kernel_rfl) (by simp) ?_
    refine To.run 6 ?_
    refine To.known 100 (v := .int .i64 (IntKind.i64.wrap ((↑k : Int) + 1))) (.int .i64 ((↑k : Int) + 1)) (by kernel_rfl) (by rw [wrap_i64 (by omega) (by omega)]) ?_
    refine To.run 2 ?_
    refine To.run 1 ?_
    refine To.at (fn := Try.f4) (n := 27) (l := [(1, Value.slice (some { block := b, off := off }) len cap), (5, Value.bool true), (7, Value.pointer (some { block := bA, off := 0 })), (13, Value.slice (some { block := gs, off := os' }) rest.length p), (14, Value.int IntKind.i64 ((↑k : Int) + 1))]) (by kernel_rfl) fun j => ?_
    exact ih (k + 1) _ _ (by omega) hs1

theorem LO_rest (W : World) (al : Option Addr) (cap : Nat) (bA cA : Nat) (r : Int) (hr1 : 1 ≤ r) (hr2 : r ≤ 16) (xs : List ByteArray) (hx : Texts W al xs) (hm : xs.length ≤ 40) (j : Nat → Value) (w : World)
    (hs : Sat W w [cel bA 106 [.chan (some cA)], chn cA r.toNat ((xs.take r.toNat).map Value.string), old W]) :
    To Try.prog 4 (Cfg.here Try.f4 13 j [(1, .slice al xs.length cap), (5, .bool true), (6, .int .i64 r), (7, .pointer (some ⟨bA, 0, none⟩)), (9, .int .i64 xs.length)]) w (LawEnd W) := by
  cases xs with
  | nil =>
    simp only [List.length_nil, List.take_nil, List.map_nil] at hs ⊢
    refine To.run 13 ?_
    refine To.one (One.call 3 [0, 1] [2] (g := 25) (args := [Value.pointer (some { block := bA, off := 0 })]) (by kernel_rfl) hs (LenS_ok (bA) (cA) (r.toNat) ([])) (by decide) rfl ?_)
    rintro _ _ w1 ⟨rfl, rfl⟩ hs1
    simp only [pickAll, List.filterMap_cons, List.filterMap_nil, List.getElem?_cons_zero, List.getElem?_cons_succ, List.cons_append, List.nil_append, List.drop_succ_cons, List.drop_zero] at hs1
    clear hs
    refine To.run 5 ?_
    refine To.one (One.call 3 [0, 1] [2] (g := 26) (args := [Value.pointer (some { block := bA, off := 0 })]) (by kernel_rfl) hs1 (TakeS_none (bA) (cA) (r.toNat)) (by decide) rfl ?_)
    rintro _ _ w2 ⟨rfl, rfl⟩ hs2
    simp only [pickAll, List.filterMap_cons, List.filterMap_nil, List.getElem?_cons_zero, List.getElem?_cons_succ, List.cons_append, List.nil_append, List.drop_succ_cons, List.drop_zero] at hs2
    clear hs1
    refine To.run 9 ?_
    refine To.one (One.call 3 [0, 1] [2] (g := 27) (args := [Value.pointer (some { block := bA, off := 0 })]) (by kernel_rfl) hs2 (DrainS_none (bA) (cA) (r.toNat)) (by decide) rfl ?_)
    rintro _ _ w3 ⟨s, p, rfl, rfl⟩ hs1
    simp only [pickAll, List.filterMap_cons, List.filterMap_nil, List.getElem?_cons_zero, List.getElem?_cons_succ, List.cons_append, List.nil_append, List.drop_succ_cons, List.drop_zero] at hs1
    clear hs2
    refine To.run 12 ?_
    refine To.isFalse 71 (t := 0 != if r < 0 then r else 0) (by kernel_rfl) (by (simp; omega)) ?_
    refine To.run 32 ?_
    refine To.run 1 ?_
    refine To.at (fn := Try.f4) (n := 27) (l := [(1, Value.slice al 0 cap), (5, Value.bool true), (7, Value.pointer (some { block := bA, off := 0 })), (13, Value.slice s 0 p), (14, Value.int IntKind.i64 0)]) (by kernel_rfl) fun j => ?_
    exact LO_second W al 0 cap bA cA r.toNat (by omega) [] (by simp) (fun i y h => by simp at h) s p 0 0 _ _ rfl (hs1.rowSeg 2 rfl)
  | cons x xs =>
    obtain ⟨n, hn⟩ : ∃ n, r.toNat = n + 1 := ⟨r.toNat - 1, by omega⟩
    obtain ⟨b, off, rfl, hc⟩ := hx 0 x rfl
    rw [Nat.add_zero] at hc
    simp only [hn, List.take_succ_cons, List.map_cons, List.length_cons] at hs ⊢
    refine To.run 8 ?_
    refine To.isFalse 43 (t := decide ((↑(xs.length + 1) : Int) < (↑(xs.length + 1) : Int))) (by kernel_rfl) (by simp) ?_
    refine To.run 5 ?_
    refine To.one (One.call 3 [0, 1] [2] (g := 25) (args := [Value.pointer (some { block := bA, off := 0 })]) (by kernel_rfl) hs (LenS_ok (bA) (cA) (n + 1) (Value.string x :: List.map Value.string (List.take n xs))) (by decide) rfl ?_)
    rintro _ _ w1 ⟨rfl, rfl⟩ hs1
    simp only [pickAll, List.filterMap_cons, List.filterMap_nil, List.getElem?_cons_zero, List.getElem?_cons_succ, List.cons_append, List.nil_append, List.drop_succ_cons, List.drop_zero] at hs1
    clear hs
    refine To.run 5 ?_
    refine To.one (One.call 3 [0, 1] [2] (g := 26) (args := [Value.pointer (some { block := bA, off := 0 })]) (by kernel_rfl) hs1 (TakeS_some (bA) (cA) (n + 1) (Value.string x) (List.map Value.string (List.take n xs))) (by decide) rfl ?_)
    rintro _ _ w2 ⟨rfl, rfl⟩ hs2
    simp only [pickAll, List.filterMap_cons, List.filterMap_nil, List.getElem?_cons_zero, List.getElem?_cons_succ, List.cons_append, List.nil_append, List.drop_succ_cons, List.drop_zero] at hs2
    clear hs1
    refine To.run 9 ?_
    refine To.one (One.call 3 [0, 1] [2] (g := 27) (args := [Value.pointer (some { block := bA, off := 0 })]) (by kernel_rfl) hs2 (DrainS_ok (bA) (cA) (n + 1) (List.take n xs) (by (simp; omega))) (by decide) rfl ?_)
    rintro _ _ w3 ⟨s, p, rfl, rfl⟩ hs1
    simp only [pickAll, List.filterMap_cons, List.filterMap_nil, List.getElem?_cons_zero, List.getElem?_cons_succ, List.cons_append, List.nil_append, List.drop_succ_cons, List.drop_zero] at hs1
    clear hs2
    refine To.run 12 ?_
    refine To.isFalse 71 (t := (↑(Value.string x :: List.map Value.string (List.take n xs)).length : Int) != if r < (↑(xs.length + 1) : Int) then r else (↑(xs.length + 1) : Int)) (by kernel_rfl) (by (simp; omega)) ?_
    refine To.run 6 ?_
    refine To.isFalse 77 (t := !true == decide ((↑(Value.string x :: List.map Value.string (List.take n xs)).length : Int) > 0)) (by kernel_rfl) (by simp) ?_
    refine To.run 4 ?_
    refine To.one (One.ixa (0) (off + (0)) (t := 42) (b := b) (off := off) (len := xs.length + 1) (cap := cap) (e := 9) (sz := 1) (kd := IntKind.i64) (i := 0) (by kernel_rfl) (by kernel_rfl) (rfl) (by first | omega | (simp; done) | (simp; omega)) (by omega) ?_)
    refine To.one (One.loadc (t := 9) (a := ⟨b, off, none⟩) (v := Value.string x) (Sat.oldCell hs1 3 rfl hc) (by kernel_rfl) (by kernel_rfl) ?_)
    refine To.run 4 ?_
    refine To.isFalse 87 (t := !x.toList == x.toList) (by kernel_rfl) (by simp) ?_
    refine To.run 4 ?_
    refine To.known 91 (v := .int .i64 (IntKind.i64.wrap ((↑(Value.string x :: List.map Value.string (List.take n xs)).length : Int) - 1))) (.int .i64 ((↑(Value.string x :: List.map Value.string (List.take n xs)).length : Int) - 1)) (by kernel_rfl) (by rw [wrap_i64 (by omega) (by (simp; omega))]) ?_
    refine To.run 4 ?_
    refine To.isFalse 94 (t := (↑(List.take n xs).length : Int) != if 0 > (↑(Value.string x :: List.map Value.string (List.take n xs)).length : Int) - 1 then 0 else (↑(Value.string x :: List.map Value.string (List.take n xs)).length : Int) - 1) (by kernel_rfl) (by (simp; omega)) ?_
    refine To.run 8 ?_
    refine To.run 1 ?_
    refine To.at (fn := Try.f4) (n := 27) (l := [(1, Value.slice (some { block := b, off := off }) (xs.length + 1) cap), (5, Value.bool true), (7, Value.pointer (some { block := bA, off := 0 })), (13, Value.slice s (List.take n xs).length p), (14, Value.int IntKind.i64 0)]) (by kernel_rfl) fun j => ?_
    refine LO_second W _ _ cap bA cA (n + 1) (by omega) (xs.take n) (by simp; simp at hm; omega) (fun i y h => ?_) s p (xs.take n).length 0 _ _ (by omega) (hs1.rowSeg 2 rfl)
    have hi : i < (xs.take n).length := (List.getElem?_eq_some_iff.1 h).1
    rw [List.length_take] at hi
    rw [List.getElem?_take_of_lt (by omega)] at h
    obtain ⟨b', off', e, hc'⟩ := hx (i + 1) y (by simpa using h)
    exact ⟨by omega, b', off', e, hc'⟩

theorem LO_law (W : World) (a : Int) (ha0 : 0 ≤ a) (ha1 : a ≤ 255) (al : Option Addr) (len cap m : Nat) (hm : min len 40 = m) (hlc : len ≤ cap) (hcap : cap ≤ 9223372036854775807) (xs : List ByteArray) (hl : xs.length = m) (hx : Texts W al xs) :
    Calls Try.prog 4 #[.int .u8 a, .slice al len cap] W (LawEnd W) := by
  refine Sx.start (args := [_, _]) Try.func4 (by kernel_rfl) ?_
  have hs := Sat.start W
  obtain ⟨r, hr, h1, h2⟩ := near16 a ha0 ha1
  refine To.run 6 ?_
  refine To.one (One.call 1 [] [0] (g := 12) (args := []) (by kernel_rfl) hs (examples5_ok) (by decide) rfl ?_)
  rintro _ _ w1 ⟨rfl, rfl⟩ hs1
  simp only [pickAll, List.filterMap_cons, List.filterMap_nil, List.getElem?_cons_zero, List.getElem?_cons_succ, List.cons_append, List.nil_append, List.drop_succ_cons, List.drop_zero] at hs1
  clear hs
  refine To.run 15 ?_
  refine To.run 1 ?_
  refine To.run 5 ?_
  refine To.known 6 _ (by kernel_rfl) hr ?_
  refine To.known 25 _ (by kernel_rfl) hr ?_
  refine To.one (One.call 1 [] [0] (g := 23) (args := [Value.int IntKind.i64 r]) (by kernel_rfl) hs1 (NewS_ok (r) (by assumption) (by assumption)) (by decide) rfl ?_)
  rintro _ _ w2 ⟨b, c, rfl, rfl⟩ hs2
  simp only [pickAll, List.filterMap_cons, List.filterMap_nil, List.getElem?_cons_zero, List.getElem?_cons_succ, List.cons_append, List.nil_append, List.drop_succ_cons, List.drop_zero] at hs2
  clear hs1
  refine To.run 24 ?_
  refine To.one (One.slHead (hi' := (some (Value.int IntKind.i64 (if 40 < (↑len : Int) then 40 else (↑len : Int))))) (t := 42) (e := 9) (sz := 1) (a := al) (len := len) (cap := cap) ((if 40 < (↑len : Int) then 40 else (↑len : Int)).toNat) (by kernel_rfl) (by kernel_rfl) (fun v h => ⟨_, _, (Option.some.inj h).symm, by omega⟩) (fun h => by cases h) (by first | omega | (simp; done) | (simp; omega)) ?_)
  refine To.run 8 ?_
  have hmi : (if 40 < (len : Int) then 40 else (len : Int)).toNat = xs.length := by
    rw [hl, ← hm]
    split
    · rw [Nat.min_eq_right (by omega)]; rfl
    · rw [Nat.min_eq_left (by omega)]; rfl
  refine To.run 1 ?_
  refine To.at (fn := Try.f4) (n := 13) (l := [(1, Value.slice al (if 40 < (↑len : Int) then 40 else (↑len : Int)).toNat cap), (5, Value.bool true), (6, Value.int IntKind.i64 r), (7, Value.pointer (some { block := b, off := 0 })), (9, Value.int IntKind.i64 0)]) (by kernel_rfl) fun j => ?_
  rw [hmi]
  exact LO_fill W al cap b c r h1 h2 xs hx (by omega) (fun j w hs => LO_rest W al cap b c r h1 h2 xs hx (by omega) j w hs) xs.length 0 _ _ (by omega) (by simpa using hs2)
end Go.Proofs.Ythojpcfaaiefhaa
