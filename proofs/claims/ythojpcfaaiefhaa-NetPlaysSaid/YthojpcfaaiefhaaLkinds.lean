import Derived.Test.YthojpcfaaiefhaaProg
import Derived.Test.YthojpcfaaiefhaaSxLaw
import Derived.Test.YthojpcfaaiefhaaLorder
set_option linter.unusedSimpArgs false
set_option linter.unusedVariables false
namespace Go.Proofs.Ythojpcfaaiefhaa
open Go Go.Sx
set_option linter.unusedSimpArgs false
set_option maxHeartbeats 0

/-- The cells that are told. -/
def Told {α : Type} (f : α → Value) (W : World) (al : Option Addr) (xs : List α) : Prop :=
  ∀ i x, xs[i]? = some x → ∃ b off, al = some ⟨b, off, none⟩ ∧ W.cell? ⟨b, off + i, none⟩ = some (f x)

def lkSlots (al : Option Addr) (len cap : Nat) (bl : Option Addr) (len2 cap2 : Nat) (bA bB : Nat) : List (Nat × Value) :=
  [(0, .slice al len cap), (1, .slice bl len2 cap2), (5, .bool true), (6, .pointer (some ⟨bA, 0, none⟩)), (8, .pointer (some ⟨bB, 0, none⟩))]

theorem LK_second (W : World) (al : Option Addr) (len cap : Nat) (bl : Option Addr) (len2 cap2 : Nat) (bA cA bB cB : Nat) (xs : List Int) (hx : Told (Value.int .u64) W al xs) (hxl : xs.length = min len 16) (ys : List Bool) (hy : Told Value.bool W bl ys) (hyl : ys.length = min len2 16) :
    ∀ (m k : Nat) (j : Nat → Value) (w : World), k + m = 17 →
    Sat W w [cel bA 109 [.chan (some cA)], chn cA 16 ((xs.drop k).map (Value.int .u64)), cel bB 112 [.chan (some cB)], chn cB 16 ((ys.drop k).map Value.bool), old W] →
    To Try.prog 5 (Cfg.here Try.f5 21 j [(0, .slice al len cap), (1, .slice bl len2 cap2), (5, .bool true), (6, .pointer (some ⟨bA, 0, none⟩)), (8, .pointer (some ⟨bB, 0, none⟩)), (11, .int .i64 k)]) w (LawEnd W) := by
  intro m
  induction m with
  | zero =>
    intro k j w hk hs
    obtain rfl : k = 17 := by omega
    refine To.run 13 ?_
    refine To.retv Try.func5 (by kernel_rfl) (v := Value.bool true) (by kernel_rfl) ?_
    exact hs.lawEnd 4 rfl
  | succ m ih =>
    intro k j w hk hs
    by_cases h1 : k < xs.length
    · obtain ⟨b, off, rfl, hc⟩ := hx k _ (List.getElem?_eq_getElem h1)
      have e1 : xs.drop k = xs[k] :: xs.drop (k + 1) := List.drop_eq_getElem_cons h1
      rw [e1, List.map_cons] at hs
      clear e1
      by_cases h2 : k < ys.length
      · obtain ⟨b2, off2, rfl, hc2⟩ := hy k _ (List.getElem?_eq_getElem h2)
        have e2 : ys.drop k = ys[k] :: ys.drop (k + 1) := List.drop_eq_getElem_cons h2
        rw [e2, List.map_cons] at hs
        clear e2
        have q0 : k < len := by omega
        have q1 : k < len2 := by omega
        have q2 : k < 16 := by omega
        clear hxl hyl
        refine To.run 6 ?_
        refine To.isTrue 66 (t := decide ((↑k : Int) < 17)) (by kernel_rfl) (by (simp; omega)) ?_
        refine To.run 7 ?_
        refine To.one (One.call 5 [0, 1] [2, 3, 4] (g := 32) (args := [Value.pointer (some { block := bA, off := 0 })]) (by kernel_rfl) hs (TakeU_some (bA) (cA) (16) (Value.int IntKind.u64 xs[k]) (List.map (Value.int IntKind.u64) (List.drop (k + 1) xs))) (by decide) rfl ?_)
        rintro _ _ w1 ⟨rfl, rfl⟩ hs1
        simp only [pickAll, List.filterMap_cons, List.filterMap_nil, List.getElem?_cons_zero, List.getElem?_cons_succ, List.cons_append, List.nil_append, List.drop_succ_cons, List.drop_zero] at hs1
        clear hs
        refine To.run 9 ?_
        refine To.one (One.call 5 [2, 3] [0, 1, 4] (g := 33) (args := [Value.pointer (some { block := bB, off := 0 })]) (by kernel_rfl) hs1 (TakeB_some (bB) (cB) (16) (Value.bool ys[k]) (List.map Value.bool (List.drop (k + 1) ys))) (by decide) rfl ?_)
        rintro _ _ w2 ⟨rfl, rfl⟩ hs2
        simp only [pickAll, List.filterMap_cons, List.filterMap_nil, List.getElem?_cons_zero, List.getElem?_cons_succ, List.cons_append, List.nil_append, List.drop_succ_cons, List.drop_zero] at hs2
        clear hs1
        refine To.run 14 ?_
        refine To.isTrue 84 (t := decide ((↑k : Int) < (↑len : Int))) (by kernel_rfl) (by (simp; omega)) ?_
        refine To.run 5 ?_
        refine To.isFalse 89 (t := !true == decide ((↑k : Int) < 16)) (by kernel_rfl) (by (simp; omega)) ?_
        refine To.run 6 ?_
        refine To.isTrue 95 (t := decide ((↑k : Int) < (↑len2 : Int))) (by kernel_rfl) (by (simp; omega)) ?_
        refine To.run 6 ?_
        refine To.isFalse 101 (t := !true == decide ((↑k : Int) < 16)) (by kernel_rfl) (by (simp; omega)) ?_
        refine To.run 5 ?_
        refine To.one (One.ixa (k) (off + (k)) (t := 51) (b := b) (off := off) (len := len) (cap := cap) (e := 56) (sz := 1) (kd := IntKind.i64) (i := (↑k : Int)) (by kernel_rfl) (by kernel_rfl) (rfl) (by first | omega | (simp; done) | (simp; omega)) (by omega) ?_)
        refine To.one (One.loadc (t := 56) (a := ⟨b, off + k, none⟩) (v := Value.int IntKind.u64 xs[k]) (Sat.oldCell hs2 4 rfl hc) (by kernel_rfl) (by kernel_rfl) ?_)
        refine To.run 4 ?_
        refine To.isFalse 112 (t := xs[k] != xs[k]) (by kernel_rfl) (by simp) ?_
        refine To.run 5 ?_
        refine To.one (One.ixa (k) (off2 + (k)) (t := 52) (b := b2) (off := off2) (len := len2) (cap := cap2) (e := 4) (sz := 1) (kd := IntKind.i64) (i := (↑k : Int)) (by kernel_rfl) (by kernel_rfl) (rfl) (by first | omega | (simp; done) | (simp; omega)) (by omega) ?_)
        refine To.one (One.loadc (t := 4) (a := ⟨b2, off2 + k, none⟩) (v := Value.bool ys[k]) (Sat.oldCell hs2 4 rfl hc2) (by kernel_rfl) (by kernel_rfl) ?_)
        refine To.run 4 ?_
        refine To.isFalse 122 (t := !ys[k] == ys[k]) (by kernel_rfl) (by simp) ?_
        refine To.run 6 ?_
        refine To.known 68 (v := .int .i64 (IntKind.i64.wrap ((↑k : Int) + 1))) (.int .i64 ((↑k : Int) + 1)) (by kernel_rfl) (by rw [wrap_i64 (by omega) (by omega)]) ?_
        refine To.run 2 ?_
        refine To.run 1 ?_
        refine To.at (fn := Try.f5) (n := 21) (l := [(0, Value.slice (some { block := b, off := off }) len cap), (1, Value.slice (some { block := b2, off := off2 }) len2 cap2), (5, Value.bool true), (6, Value.pointer (some { block := bA, off := 0 })), (8, Value.pointer (some { block := bB, off := 0 })), (11, Value.int IntKind.i64 ((↑k : Int) + 1))]) (by kernel_rfl) fun j => ?_
        exact ih (k + 1) _ _ (by omega) (hs2.get [2, 3, 0, 1, 4] (by decide) rfl)
      · have e2 : ys.drop k = [] := List.drop_eq_nil_of_le (by omega)
        rw [e2, List.map_nil] at hs
        clear e2
        have q0 : k < len := by omega
        have q1 : ¬ k < len2 := by omega
        have q2 : k < 16 := by omega
        have q3 : ys.length ≤ k + 1 := by omega
        clear hxl hyl
        refine To.run 6 ?_
        refine To.isTrue 66 (t := decide ((↑k : Int) < 17)) (by kernel_rfl) (by (simp; omega)) ?_
        refine To.run 7 ?_
        refine To.one (One.call 5 [0, 1] [2, 3, 4] (g := 32) (args := [Value.pointer (some { block := bA, off := 0 })]) (by kernel_rfl) hs (TakeU_some (bA) (cA) (16) (Value.int IntKind.u64 xs[k]) (List.map (Value.int IntKind.u64) (List.drop (k + 1) xs))) (by decide) rfl ?_)
        rintro _ _ w1 ⟨rfl, rfl⟩ hs1
        simp only [pickAll, List.filterMap_cons, List.filterMap_nil, List.getElem?_cons_zero, List.getElem?_cons_succ, List.cons_append, List.nil_append, List.drop_succ_cons, List.drop_zero] at hs1
        clear hs
        refine To.run 9 ?_
        refine To.one (One.call 5 [2, 3] [0, 1, 4] (g := 33) (args := [Value.pointer (some { block := bB, off := 0 })]) (by kernel_rfl) hs1 (TakeB_none (bB) (cB) (16)) (by decide) rfl ?_)
        rintro _ _ w2 ⟨rfl, rfl⟩ hs2
        simp only [pickAll, List.filterMap_cons, List.filterMap_nil, List.getElem?_cons_zero, List.getElem?_cons_succ, List.cons_append, List.nil_append, List.drop_succ_cons, List.drop_zero] at hs2
        clear hs1
        refine To.run 14 ?_
        refine To.isTrue 84 (t := decide ((↑k : Int) < (↑len : Int))) (by kernel_rfl) (by (simp; omega)) ?_
        refine To.run 5 ?_
        refine To.isFalse 89 (t := !true == decide ((↑k : Int) < 16)) (by kernel_rfl) (by (simp; omega)) ?_
        refine To.run 6 ?_
        refine To.isFalse 95 (t := decide ((↑k : Int) < (↑len2 : Int))) (by kernel_rfl) (by (simp; omega)) ?_
        refine To.run 11 ?_
        refine To.one (One.ixa (k) (off + (k)) (t := 51) (b := b) (off := off) (len := len) (cap := cap) (e := 56) (sz := 1) (kd := IntKind.i64) (i := (↑k : Int)) (by kernel_rfl) (by kernel_rfl) (rfl) (by first | omega | (simp; done) | (simp; omega)) (by omega) ?_)
        refine To.one (One.loadc (t := 56) (a := ⟨b, off + k, none⟩) (v := Value.int IntKind.u64 xs[k]) (Sat.oldCell hs2 4 rfl hc) (by kernel_rfl) (by kernel_rfl) ?_)
        refine To.run 4 ?_
        refine To.isFalse 112 (t := xs[k] != xs[k]) (by kernel_rfl) (by simp) ?_
        refine To.run 19 ?_
        refine To.run 1 ?_
        refine To.known 11 (v := .int .i64 (IntKind.i64.wrap ((↑k : Int) + 1))) (.int .i64 ((↑k : Int) + 1)) (by kernel_rfl) (by rw [wrap_i64 (by omega) (by omega)]) ?_
        refine To.at (fn := Try.f5) (n := 21) (l := [(0, Value.slice (some { block := b, off := off }) len cap), (1, Value.slice bl len2 cap2), (5, Value.bool true), (6, Value.pointer (some { block := bA, off := 0 })), (8, Value.pointer (some { block := bB, off := 0 })), (11, Value.int IntKind.i64 ((↑k : Int) + 1))]) (by kernel_rfl) fun j => ?_
        exact ih (k + 1) _ _ (by omega) (by rw [List.drop_eq_nil_of_le q3, List.map_nil]; exact hs2.get [2, 3, 0, 1, 4] (by decide) rfl)
    · have e1 : xs.drop k = [] := List.drop_eq_nil_of_le (by omega)
      rw [e1, List.map_nil] at hs
      clear e1
      by_cases h2 : k < ys.length
      · obtain ⟨b2, off2, rfl, hc2⟩ := hy k _ (List.getElem?_eq_getElem h2)
        have e2 : ys.drop k = ys[k] :: ys.drop (k + 1) := List.drop_eq_getElem_cons h2
        rw [e2, List.map_cons] at hs
        clear e2
        have q0 : ¬ k < len := by omega
        have q1 : k < len2 := by omega
        have q2 : k < 16 := by omega
        have q3 : xs.length ≤ k + 1 := by omega
        clear hxl hyl
        refine To.run 6 ?_
        refine To.isTrue 66 (t := decide ((↑k : Int) < 17)) (by kernel_rfl) (by (simp; omega)) ?_
        refine To.run 7 ?_
        refine To.one (One.call 5 [0, 1] [2, 3, 4] (g := 32) (args := [Value.pointer (some { block := bA, off := 0 })]) (by kernel_rfl) hs (TakeU_none (bA) (cA) (16)) (by decide) rfl ?_)
        rintro _ _ w1 ⟨rfl, rfl⟩ hs1
        simp only [pickAll, List.filterMap_cons, List.filterMap_nil, List.getElem?_cons_zero, List.getElem?_cons_succ, List.cons_append, List.nil_append, List.drop_succ_cons, List.drop_zero] at hs1
        clear hs
        refine To.run 9 ?_
        refine To.one (One.call 5 [2, 3] [0, 1, 4] (g := 33) (args := [Value.pointer (some { block := bB, off := 0 })]) (by kernel_rfl) hs1 (TakeB_some (bB) (cB) (16) (Value.bool ys[k]) (List.map Value.bool (List.drop (k + 1) ys))) (by decide) rfl ?_)
        rintro _ _ w2 ⟨rfl, rfl⟩ hs2
        simp only [pickAll, List.filterMap_cons, List.filterMap_nil, List.getElem?_cons_zero, List.getElem?_cons_succ, List.cons_append, List.nil_append, List.drop_succ_cons, List.drop_zero] at hs2
        clear hs1
        refine To.run 14 ?_
        refine To.isFalse 84 (t := decide ((↑k : Int) < (↑len : Int))) (by kernel_rfl) (by (simp; omega)) ?_
        refine To.run 11 ?_
        refine To.isTrue 95 (t := decide ((↑k : Int) < (↑len2 : Int))) (by kernel_rfl) (by (simp; omega)) ?_
        refine To.run 6 ?_
        refine To.isFalse 101 (t := !true == decide ((↑k : Int) < 16)) (by kernel_rfl) (by (simp; omega)) ?_
        refine To.run 16 ?_
        refine To.one (One.ixa (k) (off2 + (k)) (t := 52) (b := b2) (off := off2) (len := len2) (cap := cap2) (e := 4) (sz := 1) (kd := IntKind.i64) (i := (↑k : Int)) (by kernel_rfl) (by kernel_rfl) (rfl) (by first | omega | (simp; done) | (simp; omega)) (by omega) ?_)
        refine To.one (One.loadc (t := 4) (a := ⟨b2, off2 + k, none⟩) (v := Value.bool ys[k]) (Sat.oldCell hs2 4 rfl hc2) (by kernel_rfl) (by kernel_rfl) ?_)
        refine To.run 4 ?_
        refine To.isFalse 122 (t := !ys[k] == ys[k]) (by kernel_rfl) (by simp) ?_
        refine To.run 8 ?_
        refine To.run 1 ?_
        refine To.known 11 (v := .int .i64 (IntKind.i64.wrap ((↑k : Int) + 1))) (.int .i64 ((↑k : Int) + 1)) (by kernel_rfl) (by rw [wrap_i64 (by omega) (by omega)]) ?_
        refine To.at (fn := Try.f5) (n := 21) (l := [(0, Value.slice al len cap), (1, Value.slice (some { block := b2, off := off2 }) len2 cap2), (5, Value.bool true), (6, Value.pointer (some { block := bA, off := 0 })), (8, Value.pointer (some { block := bB, off := 0 })), (11, Value.int IntKind.i64 ((↑k : Int) + 1))]) (by kernel_rfl) fun j => ?_
        exact ih (k + 1) _ _ (by omega) (by rw [List.drop_eq_nil_of_le q3, List.map_nil]; exact hs2.get [2, 3, 0, 1, 4] (by decide) rfl)
      · have e2 : ys.drop k = [] := List.drop_eq_nil_of_le (by omega)
        rw [e2, List.map_nil] at hs
        clear e2
        have q0 : xs.length ≤ k + 1 := by omega
        have q1 : ys.length ≤ k + 1 := by omega
        by_cases h16 : k < 16
        · have q2 : ¬ k < len := by omega
          have q3 : ¬ k < len2 := by omega
          clear hxl hyl
          refine To.run 6 ?_
          refine To.isTrue 66 (t := decide ((↑k : Int) < 17)) (by kernel_rfl) (by (simp; omega)) ?_
          refine To.run 7 ?_
          refine To.one (One.call 5 [0, 1] [2, 3, 4] (g := 32) (args := [Value.pointer (some { block := bA, off := 0 })]) (by kernel_rfl) hs (TakeU_none (bA) (cA) (16)) (by decide) rfl ?_)
          rintro _ _ w1 ⟨rfl, rfl⟩ hs1
          simp only [pickAll, List.filterMap_cons, List.filterMap_nil, List.getElem?_cons_zero, List.getElem?_cons_succ, List.cons_append, List.nil_append, List.drop_succ_cons, List.drop_zero] at hs1
          clear hs
          refine To.run 9 ?_
          refine To.one (One.call 5 [2, 3] [0, 1, 4] (g := 33) (args := [Value.pointer (some { block := bB, off := 0 })]) (by kernel_rfl) hs1 (TakeB_none (bB) (cB) (16)) (by decide) rfl ?_)
          rintro _ _ w2 ⟨rfl, rfl⟩ hs2
          simp only [pickAll, List.filterMap_cons, List.filterMap_nil, List.getElem?_cons_zero, List.getElem?_cons_succ, List.cons_append, List.nil_append, List.drop_succ_cons, List.drop_zero] at hs2
          clear hs1
          refine To.run 14 ?_
          refine To.isFalse 84 (t := decide ((↑k : Int) < (↑len : Int))) (by kernel_rfl) (by (simp; omega)) ?_
          refine To.run 11 ?_
          refine To.isFalse 95 (t := decide ((↑k : Int) < (↑len2 : Int))) (by kernel_rfl) (by (simp; omega)) ?_
          refine To.run 36 ?_
          refine To.run 1 ?_
          refine To.known 11 (v := .int .i64 (IntKind.i64.wrap ((↑k : Int) + 1))) (.int .i64 ((↑k : Int) + 1)) (by kernel_rfl) (by rw [wrap_i64 (by omega) (by omega)]) ?_
          refine To.at (fn := Try.f5) (n := 21) (l := [(0, Value.slice al len cap), (1, Value.slice bl len2 cap2), (5, Value.bool true), (6, Value.pointer (some { block := bA, off := 0 })), (8, Value.pointer (some { block := bB, off := 0 })), (11, Value.int IntKind.i64 ((↑k : Int) + 1))]) (by kernel_rfl) fun j => ?_
          exact ih (k + 1) _ _ (by omega) (by rw [List.drop_eq_nil_of_le q0, List.drop_eq_nil_of_le q1, List.map_nil, List.map_nil]; exact hs2.get [2, 3, 0, 1, 4] (by decide) rfl)
        · clear hxl hyl
          by_cases h3 : k < len
          · by_cases h4 : k < len2
            · refine To.run 6 ?_
              refine To.isTrue 66 (t := decide ((↑k : Int) < 17)) (by kernel_rfl) (by (simp; omega)) ?_
              refine To.run 7 ?_
              refine To.one (One.call 5 [0, 1] [2, 3, 4] (g := 32) (args := [Value.pointer (some { block := bA, off := 0 })]) (by kernel_rfl) hs (TakeU_none (bA) (cA) (16)) (by decide) rfl ?_)
              rintro _ _ w1 ⟨rfl, rfl⟩ hs1
              simp only [pickAll, List.filterMap_cons, List.filterMap_nil, List.getElem?_cons_zero, List.getElem?_cons_succ, List.cons_append, List.nil_append, List.drop_succ_cons, List.drop_zero] at hs1
              clear hs
              refine To.run 9 ?_
              refine To.one (One.call 5 [2, 3] [0, 1, 4] (g := 33) (args := [Value.pointer (some { block := bB, off := 0 })]) (by kernel_rfl) hs1 (TakeB_none (bB) (cB) (16)) (by decide) rfl ?_)
              rintro _ _ w2 ⟨rfl, rfl⟩ hs2
              simp only [pickAll, List.filterMap_cons, List.filterMap_nil, List.getElem?_cons_zero, List.getElem?_cons_succ, List.cons_append, List.nil_append, List.drop_succ_cons, List.drop_zero] at hs2
              clear hs1
              refine To.run 14 ?_
              refine To.isTrue 84 (t := decide ((↑k : Int) < (↑len : Int))) (by kernel_rfl) (by (simp; omega)) ?_
              refine To.run 5 ?_
              refine To.isFalse 89 (t := !false == decide ((↑k : Int) < 16)) (by kernel_rfl) (by (simp; omega)) ?_
              refine To.run 6 ?_
              refine To.isTrue 95 (t := decide ((↑k : Int) < (↑len2 : Int))) (by kernel_rfl) (by (simp; omega)) ?_
              refine To.run 6 ?_
              refine To.isFalse 101 (t := !false == decide ((↑k : Int) < 16)) (by kernel_rfl) (by (simp; omega)) ?_
              refine To.run 30 ?_
              refine To.run 1 ?_
              refine To.known 11 (v := .int .i64 (IntKind.i64.wrap ((↑k : Int) + 1))) (.int .i64 ((↑k : Int) + 1)) (by kernel_rfl) (by rw [wrap_i64 (by omega) (by omega)]) ?_
              refine To.at (fn := Try.f5) (n := 21) (l := [(0, Value.slice al len cap), (1, Value.slice bl len2 cap2), (5, Value.bool true), (6, Value.pointer (some { block := bA, off := 0 })), (8, Value.pointer (some { block := bB, off := 0 })), (11, Value.int IntKind.i64 ((↑k : Int) + 1))]) (by kernel_rfl) fun j => ?_
              exact ih (k + 1) _ _ (by omega) (by rw [List.drop_eq_nil_of_le q0, List.drop_eq_nil_of_le q1, List.map_nil, List.map_nil]; exact hs2.get [2, 3, 0, 1, 4] (by decide) rfl)
            · refine To.run 6 ?_
              refine To.isTrue 66 (t := decide ((↑k : Int) < 17)) (by kernel_rfl) (by (simp; omega)) ?_
              refine To.run 7 ?_
              refine To.one (One.call 5 [0, 1] [2, 3, 4] (g := 32) (args := [Value.pointer (some { block := bA, off := 0 })]) (by kernel_rfl) hs (TakeU_none (bA) (cA) (16)) (by decide) rfl ?_)
              rintro _ _ w1 ⟨rfl, rfl⟩ hs1
              simp only [pickAll, List.filterMap_cons, List.filterMap_nil, List.getElem?_cons_zero, List.getElem?_cons_succ, List.cons_append, List.nil_append, List.drop_succ_cons, List.drop_zero] at hs1
              clear hs
              refine To.run 9 ?_
              refine To.one (One.call 5 [2, 3] [0, 1, 4] (g := 33) (args := [Value.pointer (some { block := bB, off := 0 })]) (by kernel_rfl) hs1 (TakeB_none (bB) (cB) (16)) (by decide) rfl ?_)
              rintro _ _ w2 ⟨rfl, rfl⟩ hs2
              simp only [pickAll, List.filterMap_cons, List.filterMap_nil, List.getElem?_cons_zero, List.getElem?_cons_succ, List.cons_append, List.nil_append, List.drop_succ_cons, List.drop_zero] at hs2
              clear hs1
              refine To.run 14 ?_
              refine To.isTrue 84 (t := decide ((↑k : Int) < (↑len : Int))) (by kernel_rfl) (by (simp; omega)) ?_
              refine To.run 5 ?_
              refine To.isFalse 89 (t := !false == decide ((↑k : Int) < 16)) (by kernel_rfl) (by (simp; omega)) ?_
              refine To.run 6 ?_
              refine To.isFalse 95 (t := decide ((↑k : Int) < (↑len2 : Int))) (by kernel_rfl) (by (simp; omega)) ?_
              refine To.run 36 ?_
              refine To.run 1 ?_
              refine To.known 11 (v := .int .i64 (IntKind.i64.wrap ((↑k : Int) + 1))) (.int .i64 ((↑k : Int) + 1)) (by kernel_rfl) (by rw [wrap_i64 (by omega) (by omega)]) ?_
              refine To.at (fn := Try.f5) (n := 21) (l := [(0, Value.slice al len cap), (1, Value.slice bl len2 cap2), (5, Value.bool true), (6, Value.pointer (some { block := bA, off := 0 })), (8, Value.pointer (some { block := bB, off := 0 })), (11, Value.int IntKind.i64 ((↑k : Int) + 1))]) (by kernel_rfl) fun j => ?_
              exact ih (k + 1) _ _ (by omega) (by rw [List.drop_eq_nil_of_le q0, List.drop_eq_nil_of_le q1, List.map_nil, List.map_nil]; exact hs2.get [2, 3, 0, 1, 4] (by decide) rfl)
          · by_cases h4 : k < len2
            · refine To.run 6 ?_
              refine To.isTrue 66 (t := decide ((↑k : Int) < 17)) (by kernel_rfl) (by (simp; omega)) ?_
              refine To.run 7 ?_
              refine To.one (One.call 5 [0, 1] [2, 3, 4] (g := 32) (args := [Value.pointer (some { block := bA, off := 0 })]) (by kernel_rfl) hs (TakeU_none (bA) (cA) (16)) (by decide) rfl ?_)
              rintro _ _ w1 ⟨rfl, rfl⟩ hs1
              simp only [pickAll, List.filterMap_cons, List.filterMap_nil, List.getElem?_cons_zero, List.getElem?_cons_succ, List.cons_append, List.nil_append, List.drop_succ_cons, List.drop_zero] at hs1
              clear hs
              refine To.run 9 ?_
              refine To.one (One.call 5 [2, 3] [0, 1, 4] (g := 33) (args := [Value.pointer (some { block := bB, off := 0 })]) (by kernel_rfl) hs1 (TakeB_none (bB) (cB) (16)) (by decide) rfl ?_)
              rintro _ _ w2 ⟨rfl, rfl⟩ hs2
              simp only [pickAll, List.filterMap_cons, List.filterMap_nil, List.getElem?_cons_zero, List.getElem?_cons_succ, List.cons_append, List.nil_append, List.drop_succ_cons, List.drop_zero] at hs2
              clear hs1
              refine To.run 14 ?_
              refine To.isFalse 84 (t := decide ((↑k : Int) < (↑len : Int))) (by kernel_rfl) (by (simp; omega)) ?_
              refine To.run 11 ?_
              refine To.isTrue 95 (t := decide ((↑k : Int) < (↑len2 : Int))) (by kernel_rfl) (by (simp; omega)) ?_
              refine To.run 6 ?_
              refine To.isFalse 101 (t := !false == decide ((↑k : Int) < 16)) (by kernel_rfl) (by (simp; omega)) ?_
              refine To.run 30 ?_
              refine To.run 1 ?_
              refine To.known 11 (v := .int .i64 (IntKind.i64.wrap ((↑k : Int) + 1))) (.int .i64 ((↑k : Int) + 1)) (by kernel_rfl) (by rw [wrap_i64 (by omega) (by omega)]) ?_
              refine To.at (fn := Try.f5) (n := 21) (l := [(0, Value.slice al len cap), (1, Value.slice bl len2 cap2), (5, Value.bool true), (6, Value.pointer (some { block := bA, off := 0 })), (8, Value.pointer (some { block := bB, off := 0 })), (11, Value.int IntKind.i64 ((↑k : Int) + 1))]) (by kernel_rfl) fun j => ?_
              exact ih (k + 1) _ _ (by omega) (by rw [List.drop_eq_nil_of_le q0, List.drop_eq_nil_of_le q1, List.map_nil, List.map_nil]; exact hs2.get [2, 3, 0, 1, 4] (by decide) rfl)
            · refine To.run 6 ?_
              refine To.isTrue 66 (t := decide ((↑k : Int) < 17)) (by kernel_rfl) (by (simp; omega)) ?_
              refine To.run 7 ?_
              refine To.one (One.call 5 [0, 1] [2, 3, 4] (g := 32) (args := [Value.pointer (some { block := bA, off := 0 })]) (by kernel_rfl) hs (TakeU_none (bA) (cA) (16)) (by decide) rfl ?_)
              rintro _ _ w1 ⟨rfl, rfl⟩ hs1
              simp only [pickAll, List.filterMap_cons, List.filterMap_nil, List.getElem?_cons_zero, List.getElem?_cons_succ, List.cons_append, List.nil_append, List.drop_succ_cons, List.drop_zero] at hs1
              clear hs
              refine To.run 9 ?_
              refine To.one (One.call 5 [2, 3] [0, 1, 4] (g := 33) (args := [Value.pointer (some { block := bB, off := 0 })]) (by kernel_rfl) hs1 (TakeB_none (bB) (cB) (16)) (by decide) rfl ?_)
              rintro _ _ w2 ⟨rfl, rfl⟩ hs2
              simp only [pickAll, List.filterMap_cons, List.filterMap_nil, List.getElem?_cons_zero, List.getElem?_cons_succ, List.cons_append, List.nil_append, List.drop_succ_cons, List.drop_zero] at hs2
              clear hs1
              refine To.run 14 ?_
              refine To.isFalse 84 (t := decide ((↑k : Int) < (↑len : Int))) (by kernel_rfl) (by (simp; omega)) ?_
              refine To.run 11 ?_
              refine To.isFalse 95 (t := decide ((↑k : Int) < (↑len2 : Int))) (by kernel_rfl) (by (simp; omega)) ?_
              refine To.run 36 ?_
              refine To.run 1 ?_
              refine To.known 11 (v := .int .i64 (IntKind.i64.wrap ((↑k : Int) + 1))) (.int .i64 ((↑k : Int) + 1)) (by kernel_rfl) (by rw [wrap_i64 (by omega) (by omega)]) ?_
              refine To.at (fn := Try.f5) (n := 21) (l := [(0, Value.slice al len cap), (1, Value.slice bl len2 cap2), (5, Value.bool true), (6, Value.pointer (some { block := bA, off := 0 })), (8, Value.pointer (some { block := bB, off := 0 })), (11, Value.int IntKind.i64 ((↑k : Int) + 1))]) (by kernel_rfl) fun j => ?_
              exact ih (k + 1) _ _ (by omega) (by rw [List.drop_eq_nil_of_le q0, List.drop_eq_nil_of_le q1, List.map_nil, List.map_nil]; exact hs2.get [2, 3, 0, 1, 4] (by decide) rfl)

theorem LK_first (W : World) (al : Option Addr) (len cap : Nat) (bl : Option Addr) (len2 cap2 : Nat) (bA cA bB cB : Nat) (xs : List Int) (hx : Told (Value.int .u64) W al xs) (hxl : xs.length = min len 16) (ys : List Bool) (hy : Told Value.bool W bl ys) (hyl : ys.length = min len2 16) :
    ∀ (m k : Nat) (j : Nat → Value) (w : World), k + m = 16 →
    Sat W w [cel bA 109 [.chan (some cA)], chn cA 16 ((xs.take k).map (Value.int .u64)), cel bB 112 [.chan (some cB)], chn cB 16 ((ys.take k).map Value.bool), old W] →
    To Try.prog 5 (Cfg.here Try.f5 12 j [(0, .slice al len cap), (1, .slice bl len2 cap2), (5, .bool true), (6, .pointer (some ⟨bA, 0, none⟩)), (8, .pointer (some ⟨bB, 0, none⟩)), (10, .int .i64 k)]) w (LawEnd W) := by
  intro m
  induction m with
  | zero =>
    intro k j w hk hs
    obtain rfl : k = 16 := by omega
    rw [List.take_of_length_le (by omega), List.take_of_length_le (by omega)] at hs
    refine To.run 14 ?_
    refine To.run 1 ?_
    refine To.at (fn := Try.f5) (n := 21) (l := [(0, Value.slice al len cap), (1, Value.slice bl len2 cap2), (5, Value.bool true), (6, Value.pointer (some { block := bA, off := 0 })), (8, Value.pointer (some { block := bB, off := 0 })), (11, Value.int IntKind.i64 0)]) (by kernel_rfl) fun j => ?_
    exact LK_second W al len cap bl len2 cap2 bA cA bB cB xs hx hxl ys hy hyl 17 0 _ _ rfl hs
  | succ m ih =>
    intro k j w hk hs
    have l1 : (List.map (Value.int .u64) (xs.take k)).length < 16 := by simp; omega
    have l2 : (List.map Value.bool (ys.take k)).length < 16 := by simp; omega
    by_cases h1 : k < xs.length
    · obtain ⟨b, off, rfl, hc⟩ := hx k _ (List.getElem?_eq_getElem h1)
      have e1 : (xs.take (k + 1)).map (Value.int .u64) = (xs.take k).map (Value.int .u64) ++ [.int .u64 xs[k]] := by rw [List.take_succ_eq_append_getElem h1, List.map_append]; rfl
      by_cases h2 : k < ys.length
      · obtain ⟨b2, off2, rfl, hc2⟩ := hy k _ (List.getElem?_eq_getElem h2)
        have e2 : (ys.take (k + 1)).map Value.bool = (ys.take k).map Value.bool ++ [.bool ys[k]] := by rw [List.take_succ_eq_append_getElem h2, List.map_append]; rfl
        have q0 : k < len := by omega
        have q1 : k < len2 := by omega
        have q2 : k < 16 := by omega
        clear hxl hyl
        refine To.run 6 ?_
        refine To.isTrue 42 (t := decide ((↑k : Int) < 16)) (by kernel_rfl) (by (simp; omega)) ?_
        refine To.run 12 ?_
        refine To.isTrue 48 (t := decide ((↑k : Int) < (↑len : Int))) (by kernel_rfl) (by (simp; omega)) ?_
        refine To.run 5 ?_
        refine To.one (One.ixa (k) (off + (k)) (t := 51) (b := b) (off := off) (len := len) (cap := cap) (e := 56) (sz := 1) (kd := IntKind.i64) (i := (↑k : Int)) (by kernel_rfl) (by kernel_rfl) (rfl) (by first | omega | (simp; done) | (simp; omega)) (by omega) ?_)
        refine To.one (One.loadc (t := 56) (a := ⟨b, off + k, none⟩) (v := Value.int IntKind.u64 xs[k]) (Sat.oldCell hs 4 rfl hc) (by kernel_rfl) (by kernel_rfl) ?_)
        refine To.one (One.call 5 [0, 1] [2, 3, 4] (g := 30) (args := [Value.pointer (some { block := bA, off := 0 }), Value.int IntKind.u64 xs[k]]) (by kernel_rfl) hs (PutU_room (bA) (cA) (16) (List.map (Value.int IntKind.u64) (List.take k xs)) (Value.int IntKind.u64 xs[k]) (by assumption)) (by decide) rfl ?_)
        rintro _ _ w1 ⟨rfl, rfl⟩ hs1
        simp only [pickAll, List.filterMap_cons, List.filterMap_nil, List.getElem?_cons_zero, List.getElem?_cons_succ, List.cons_append, List.nil_append, List.drop_succ_cons, List.drop_zero] at hs1
        clear hs
        refine To.run 8 ?_
        refine To.isTrue 58 (t := decide ((↑k : Int) < (↑len2 : Int))) (by kernel_rfl) (by (simp; omega)) ?_
        refine To.run 5 ?_
        refine To.one (One.ixa (k) (off2 + (k)) (t := 52) (b := b2) (off := off2) (len := len2) (cap := cap2) (e := 4) (sz := 1) (kd := IntKind.i64) (i := (↑k : Int)) (by kernel_rfl) (by kernel_rfl) (rfl) (by first | omega | (simp; done) | (simp; omega)) (by omega) ?_)
        refine To.one (One.loadc (t := 4) (a := ⟨b2, off2 + k, none⟩) (v := Value.bool ys[k]) (Sat.oldCell hs1 4 rfl hc2) (by kernel_rfl) (by kernel_rfl) ?_)
        refine To.one (One.call 5 [2, 3] [0, 1, 4] (g := 31) (args := [Value.pointer (some { block := bB, off := 0 }), Value.bool ys[k]]) (by kernel_rfl) hs1 (PutB_room (bB) (cB) (16) (List.map Value.bool (List.take k ys)) (Value.bool ys[k]) (by assumption)) (by decide) rfl ?_)
        rintro _ _ w2 ⟨rfl, rfl⟩ hs2
        simp only [pickAll, List.filterMap_cons, List.filterMap_nil, List.getElem?_cons_zero, List.getElem?_cons_succ, List.cons_append, List.nil_append, List.drop_succ_cons, List.drop_zero] at hs2
        clear hs1
        refine To.run 5 ?_
        refine To.known 44 (v := .int .i64 (IntKind.i64.wrap ((↑k : Int) + 1))) (.int .i64 ((↑k : Int) + 1)) (by kernel_rfl) (by rw [wrap_i64 (by omega) (by omega)]) ?_
        refine To.run 2 ?_
        refine To.run 1 ?_
        refine To.at (fn := Try.f5) (n := 12) (l := [(0, Value.slice (some { block := b, off := off }) len cap), (1, Value.slice (some { block := b2, off := off2 }) len2 cap2), (5, Value.bool true), (6, Value.pointer (some { block := bA, off := 0 })), (8, Value.pointer (some { block := bB, off := 0 })), (10, Value.int IntKind.i64 ((↑k : Int) + 1))]) (by kernel_rfl) fun j => ?_
        exact ih (k + 1) _ _ (by omega) (by rw [e1, e2]; exact hs2.get [2, 3, 0, 1, 4] (by decide) rfl)
      · have e2 : ys.take (k + 1) = ys.take k := by rw [List.take_of_length_le (by omega), List.take_of_length_le (by omega)]
        have q0 : k < len := by omega
        have q1 : ¬ k < len2 := by omega
        have q2 : k < 16 := by omega
        clear hxl hyl
        refine To.run 6 ?_
        refine To.isTrue 42 (t := decide ((↑k : Int) < 16)) (by kernel_rfl) (by (simp; omega)) ?_
        refine To.run 12 ?_
        refine To.isTrue 48 (t := decide ((↑k : Int) < (↑len : Int))) (by kernel_rfl) (by (simp; omega)) ?_
        refine To.run 5 ?_
        refine To.one (One.ixa (k) (off + (k)) (t := 51) (b := b) (off := off) (len := len) (cap := cap) (e := 56) (sz := 1) (kd := IntKind.i64) (i := (↑k : Int)) (by kernel_rfl) (by kernel_rfl) (rfl) (by first | omega | (simp; done) | (simp; omega)) (by omega) ?_)
        refine To.one (One.loadc (t := 56) (a := ⟨b, off + k, none⟩) (v := Value.int IntKind.u64 xs[k]) (Sat.oldCell hs 4 rfl hc) (by kernel_rfl) (by kernel_rfl) ?_)
        refine To.one (One.call 5 [0, 1] [2, 3, 4] (g := 30) (args := [Value.pointer (some { block := bA, off := 0 }), Value.int IntKind.u64 xs[k]]) (by kernel_rfl) hs (PutU_room (bA) (cA) (16) (List.map (Value.int IntKind.u64) (List.take k xs)) (Value.int IntKind.u64 xs[k]) (by assumption)) (by decide) rfl ?_)
        rintro _ _ w1 ⟨rfl, rfl⟩ hs1
        simp only [pickAll, List.filterMap_cons, List.filterMap_nil, List.getElem?_cons_zero, List.getElem?_cons_succ, List.cons_append, List.nil_append, List.drop_succ_cons, List.drop_zero] at hs1
        clear hs
        refine To.run 8 ?_
        refine To.isFalse 58 (t := decide ((↑k : Int) < (↑len2 : Int))) (by kernel_rfl) (by (simp; omega)) ?_
        refine To.run 8 ?_
        refine To.run 1 ?_
        refine To.known 10 (v := .int .i64 (IntKind.i64.wrap ((↑k : Int) + 1))) (.int .i64 ((↑k : Int) + 1)) (by kernel_rfl) (by rw [wrap_i64 (by omega) (by omega)]) ?_
        refine To.at (fn := Try.f5) (n := 12) (l := [(0, Value.slice (some { block := b, off := off }) len cap), (1, Value.slice bl len2 cap2), (5, Value.bool true), (6, Value.pointer (some { block := bA, off := 0 })), (8, Value.pointer (some { block := bB, off := 0 })), (10, Value.int IntKind.i64 ((↑k : Int) + 1))]) (by kernel_rfl) fun j => ?_
        exact ih (k + 1) _ _ (by omega) (by rw [e1, e2]; exact hs1)
    · have e1 : xs.take (k + 1) = xs.take k := by rw [List.take_of_length_le (by omega), List.take_of_length_le (by omega)]
      by_cases h2 : k < ys.length
      · obtain ⟨b2, off2, rfl, hc2⟩ := hy k _ (List.getElem?_eq_getElem h2)
        have e2 : (ys.take (k + 1)).map Value.bool = (ys.take k).map Value.bool ++ [.bool ys[k]] := by rw [List.take_succ_eq_append_getElem h2, List.map_append]; rfl
        have q0 : ¬ k < len := by omega
        have q1 : k < len2 := by omega
        have q2 : k < 16 := by omega
        clear hxl hyl
        refine To.run 6 ?_
        refine To.isTrue 42 (t := decide ((↑k : Int) < 16)) (by kernel_rfl) (by (simp; omega)) ?_
        refine To.run 12 ?_
        refine To.isFalse 48 (t := decide ((↑k : Int) < (↑len : Int))) (by kernel_rfl) (by (simp; omega)) ?_
        refine To.run 9 ?_
        refine To.isTrue 58 (t := decide ((↑k : Int) < (↑len2 : Int))) (by kernel_rfl) (by (simp; omega)) ?_
        refine To.run 5 ?_
        refine To.one (One.ixa (k) (off2 + (k)) (t := 52) (b := b2) (off := off2) (len := len2) (cap := cap2) (e := 4) (sz := 1) (kd := IntKind.i64) (i := (↑k : Int)) (by kernel_rfl) (by kernel_rfl) (rfl) (by first | omega | (simp; done) | (simp; omega)) (by omega) ?_)
        refine To.one (One.loadc (t := 4) (a := ⟨b2, off2 + k, none⟩) (v := Value.bool ys[k]) (Sat.oldCell hs 4 rfl hc2) (by kernel_rfl) (by kernel_rfl) ?_)
        refine To.one (One.call 5 [2, 3] [0, 1, 4] (g := 31) (args := [Value.pointer (some { block := bB, off := 0 }), Value.bool ys[k]]) (by kernel_rfl) hs (PutB_room (bB) (cB) (16) (List.map Value.bool (List.take k ys)) (Value.bool ys[k]) (by assumption)) (by decide) rfl ?_)
        rintro _ _ w1 ⟨rfl, rfl⟩ hs1
        simp only [pickAll, List.filterMap_cons, List.filterMap_nil, List.getElem?_cons_zero, List.getElem?_cons_succ, List.cons_append, List.nil_append, List.drop_succ_cons, List.drop_zero] at hs1
        clear hs
        refine To.run 7 ?_
        refine To.run 1 ?_
        refine To.known 10 (v := .int .i64 (IntKind.i64.wrap ((↑k : Int) + 1))) (.int .i64 ((↑k : Int) + 1)) (by kernel_rfl) (by rw [wrap_i64 (by omega) (by omega)]) ?_
        refine To.at (fn := Try.f5) (n := 12) (l := [(0, Value.slice al len cap), (1, Value.slice (some { block := b2, off := off2 }) len2 cap2), (5, Value.bool true), (6, Value.pointer (some { block := bA, off := 0 })), (8, Value.pointer (some { block := bB, off := 0 })), (10, Value.int IntKind.i64 ((↑k : Int) + 1))]) (by kernel_rfl) fun j => ?_
        exact ih (k + 1) _ _ (by omega) (by rw [e1, e2]; exact hs1.get [2, 3, 0, 1, 4] (by decide) rfl)
      · have e2 : ys.take (k + 1) = ys.take k := by rw [List.take_of_length_le (by omega), List.take_of_length_le (by omega)]
        have q0 : ¬ k < len := by omega
        have q1 : ¬ k < len2 := by omega
        have q2 : k < 16 := by omega
        clear hxl hyl
        refine To.run 6 ?_
        refine To.isTrue 42 (t := decide ((↑k : Int) < 16)) (by kernel_rfl) (by (simp; omega)) ?_
        refine To.run 12 ?_
        refine To.isFalse 48 (t := decide ((↑k : Int) < (↑len : Int))) (by kernel_rfl) (by (simp; omega)) ?_
        refine To.run 9 ?_
        refine To.isFalse 58 (t := decide ((↑k : Int) < (↑len2 : Int))) (by kernel_rfl) (by (simp; omega)) ?_
        refine To.run 8 ?_
        refine To.run 1 ?_
        refine To.known 10 (v := .int .i64 (IntKind.i64.wrap ((↑k : Int) + 1))) (.int .i64 ((↑k : Int) + 1)) (by kernel_rfl) (by rw [wrap_i64 (by omega) (by omega)]) ?_
        refine To.at (fn := Try.f5) (n := 12) (l := [(0, Value.slice al len cap), (1, Value.slice bl len2 cap2), (5, Value.bool true), (6, Value.pointer (some { block := bA, off := 0 })), (8, Value.pointer (some { block := bB, off := 0 })), (10, Value.int IntKind.i64 ((↑k : Int) + 1))]) (by kernel_rfl) fun j => ?_
        exact ih (k + 1) _ _ (by omega) (by rw [e1, e2]; exact hs)

theorem LK_law (W : World) (al : Option Addr) (len cap : Nat) (bl : Option Addr) (len2 cap2 : Nat) (xs : List Int) (hx : Told (Value.int .u64) W al xs) (hxl : xs.length = min len 16) (ys : List Bool) (hy : Told Value.bool W bl ys) (hyl : ys.length = min len2 16) :
    Calls Try.prog 5 #[.slice al len cap, .slice bl len2 cap2] W (LawEnd W) := by
  refine Sx.start (args := [_, _]) Try.func5 (by kernel_rfl) ?_
  have hs := Sat.start W
  refine To.run 6 ?_
  refine To.one (One.call 1 [] [0] (g := 12) (args := []) (by kernel_rfl) hs (examples5_ok) (by decide) rfl ?_)
  rintro _ _ w1 ⟨rfl, rfl⟩ hs1
  simp only [pickAll, List.filterMap_cons, List.filterMap_nil, List.getElem?_cons_zero, List.getElem?_cons_succ, List.cons_append, List.nil_append, List.drop_succ_cons, List.drop_zero] at hs1
  clear hs
  refine To.run 12 ?_
  refine To.one (One.call 1 [] [0] (g := 28) (args := [Value.int IntKind.i64 16]) (by kernel_rfl) hs1 (NewU_ok (16) (by omega) (by omega)) (by decide) rfl ?_)
  rintro _ _ w2 ⟨b, c, rfl, rfl⟩ hs2
  simp only [pickAll, List.filterMap_cons, List.filterMap_nil, List.getElem?_cons_zero, List.getElem?_cons_succ, List.cons_append, List.nil_append, List.drop_succ_cons, List.drop_zero] at hs2
  clear hs1
  refine To.run 8 ?_
  refine To.one (One.call 3 [] [0, 1, 2] (g := 29) (args := [Value.int IntKind.i64 16]) (by kernel_rfl) hs2 (NewB_ok (16) (by omega) (by omega)) (by decide) rfl ?_)
  rintro _ _ w3 ⟨b1, c1, rfl, rfl⟩ hs1
  simp only [pickAll, List.filterMap_cons, List.filterMap_nil, List.getElem?_cons_zero, List.getElem?_cons_succ, List.cons_append, List.nil_append, List.drop_succ_cons, List.drop_zero] at hs1
  clear hs2
  refine To.run 32 ?_
  refine To.run 1 ?_
  refine To.at (fn := Try.f5) (n := 12) (l := [(0, Value.slice al len cap), (1, Value.slice bl len2 cap2), (5, Value.bool true), (6, Value.pointer (some { block := b, off := 0 })), (8, Value.pointer (some { block := b1, off := 0 })), (10, Value.int IntKind.i64 0)]) (by kernel_rfl) fun j => ?_
  refine LK_first W al len cap bl len2 cap2 b c b1 c1 xs hx hxl ys hy hyl 16 0 _ _ rfl ?_
  simp only [List.take_zero, List.map_nil]
  exact hs1.get [2, 3, 0, 1, 4] (by decide) rfl
end Go.Proofs.Ythojpcfaaiefhaa
