import Derived.Test.YthojpcfaaiefhaaProg
import Derived.Test.YthojpcfaaiefhaaSxLaw
import Derived.Test.YthojpcfaaiefhaaNwrong
import Derived.Test.YthojpcfaaiefhaaLorder
set_option linter.unusedSimpArgs false
set_option linter.unusedVariables false
namespace Go.Proofs.Ythojpcfaaiefhaa
open Go Go.Sx
set_option linter.unusedSimpArgs false
set_option maxHeartbeats 0

/-- So many messages. -/
def rep (k : Nat) : List Value := List.replicate k (Value.string ⟨#[109]⟩)
theorem rep_len (k : Nat) : (rep k).length = k := List.length_replicate
theorem rep_succ (k : Nat) : rep k ++ [Value.string ⟨#[109]⟩] = rep (k + 1) := by unfold rep; rw [List.replicate_succ']

theorem NR_loop (W : World) (nb : Nat) (B C : Nat → Nat) (r : Int) (hr1 : 1 ≤ r) (hr2 : r ≤ 16) (n : Nat) (hn : n < 20)
    (fin : ∀ (j : Nat → Value) (w : World), Sat W w [cel nb 119 (netCells 2 B), lanes 25 106 r.toNat B C (one12 (rep (min n r.toNat))), old W] →
      To Try.prog 11 (Cfg.here Try.f11 13 j [(5, .bool true), (6, .int .i64 r), (7, .pointer (some ⟨nb, 0, none⟩)), (9, .int .i64 n), (10, .int .i64 n)]) w (LawEnd W)) :
    ∀ (m k : Nat) (j : Nat → Value) (w : World), k + m = n → Sat W w [cel nb 119 (netCells 2 B), lanes 25 106 r.toNat B C (one12 (rep (min k r.toNat))), old W] →
      To Try.prog 11 (Cfg.here Try.f11 13 j [(5, .bool true), (6, .int .i64 r), (7, .pointer (some ⟨nb, 0, none⟩)), (9, .int .i64 n), (10, .int .i64 k)]) w (LawEnd W) := by
  have i12 : isLane 2 1 2 := by decide
  have hrr : ((r.toNat : Nat) : Int) = r := by omega
  intro m
  induction m with
  | zero =>
    intro k j w hk hs
    obtain rfl : k = n := by omega
    exact fin j w hs
  | succ m ih =>
    intro k j w hk hs
    by_cases h : (k : Int) < r
    · have e1 : min k r.toNat = k := by omega
      have e2 : min (k + 1) r.toNat = k + 1 := by omega
      rw [e1] at hs
      have c1 := NSendS_room nb r.toNat 2 1 2 B C (one12 (rep k)) (by decide) i12 (by rw [one12_at, rep_len]; omega) (.string ⟨#[109]⟩)
      simp only [one12_at, one12_put, rep_succ] at c1
      have q : k < n := by omega
      refine To.run 7 ?_
      refine To.isTrue 38 (t := decide ((↑k : Int) < (↑n : Int))) (by kernel_rfl) (by (simp; omega)) ?_
      refine To.run 7 ?_
      refine To.one (One.call 3 [0, 1] [2] (g := 49) (args := [Value.pointer (some { block := nb, off := 0 }), Value.int IntKind.i64 1, Value.int IntKind.i64 2, Value.string { data := #[109] }]) (by kernel_rfl) hs (c1) (by decide) rfl ?_)
      rintro _ _ w1 ⟨rfl, rfl⟩ hs1
      simp only [pickAll, List.filterMap_cons, List.filterMap_nil, List.getElem?_cons_zero, List.getElem?_cons_succ, List.cons_append, List.nil_append, List.drop_succ_cons, List.drop_zero] at hs1
      clear hs
      refine To.run 5 ?_
      refine To.isFalse 46 (t := !true == decide ((↑k : Int) < r)) (by kernel_rfl) (by (simp; omega)) ?_
      refine To.run 6 ?_
      refine To.known 40 (v := .int .i64 (IntKind.i64.wrap ((↑k : Int) + 1))) (.int .i64 ((↑k : Int) + 1)) (by kernel_rfl) (by rw [wrap_i64 (by omega) (by omega)]) ?_
      refine To.run 2 ?_
      refine To.run 1 ?_
      refine To.at (fn := Try.f11) (n := 13) (l := [(5, Value.bool true), (6, Value.int IntKind.i64 r), (7, Value.pointer (some { block := nb, off := 0 })), (9, Value.int IntKind.i64 (↑n : Int)), (10, Value.int IntKind.i64 ((↑k : Int) + 1))]) (by kernel_rfl) fun j => ?_
      exact ih (k + 1) _ _ (by omega) (by rw [e2]; exact hs1)
    · have e1 : min k r.toNat = r.toNat := by omega
      have e2 : min (k + 1) r.toNat = r.toNat := by omega
      rw [e1] at hs
      have c1 := NSendS_full nb r.toNat 2 1 2 B C (one12 (rep r.toNat)) (by decide) i12 (by rw [one12_at, rep_len]; omega) (.string ⟨#[109]⟩)
      have q : k < n := by omega
      refine To.run 7 ?_
      refine To.isTrue 38 (t := decide ((↑k : Int) < (↑n : Int))) (by kernel_rfl) (by (simp; omega)) ?_
      refine To.run 7 ?_
      refine To.one (One.call 3 [0, 1] [2] (g := 49) (args := [Value.pointer (some { block := nb, off := 0 }), Value.int IntKind.i64 1, Value.int IntKind.i64 2, Value.string { data := #[109] }]) (by kernel_rfl) hs (c1) (by decide) rfl ?_)
      rintro _ _ w1 ⟨rfl, rfl⟩ hs1
      simp only [pickAll, List.filterMap_cons, List.filterMap_nil, List.getElem?_cons_zero, List.getElem?_cons_succ, List.cons_append, List.nil_append, List.drop_succ_cons, List.drop_zero] at hs1
      clear hs
      refine To.run 5 ?_
      refine To.isFalse 46 (t := !false == decide ((↑k : Int) < r)) (by kernel_rfl) (by (simp; omega)) ?_
      refine To.run 8 ?_
      refine To.run 1 ?_
      refine To.known 10 (v := .int .i64 (IntKind.i64.wrap ((↑k : Int) + 1))) (.int .i64 ((↑k : Int) + 1)) (by kernel_rfl) (by rw [wrap_i64 (by omega) (by omega)]) ?_
      refine To.at (fn := Try.f11) (n := 13) (l := [(5, Value.bool true), (6, Value.int IntKind.i64 r), (7, Value.pointer (some { block := nb, off := 0 })), (9, Value.int IntKind.i64 (↑n : Int)), (10, Value.int IntKind.i64 ((↑k : Int) + 1))]) (by kernel_rfl) fun j => ?_
      exact ih (k + 1) _ _ (by omega) (by rw [e2]; exact hs1)

theorem sum12 (ys : List Value) : sumTo 2 (one12 ys) 25 = ys.length := by
  simp [sumTo, lenAt, isLane, one12, putAt, ln]

theorem NR_end (W : World) (nb : Nat) (B C : Nat → Nat) (r : Int) (hr1 : 1 ≤ r) (hr2 : r ≤ 16) (n : Nat) (hn : n < 20) (j : Nat → Value) (w : World)
    (hs : Sat W w [cel nb 119 (netCells 2 B), lanes 25 106 r.toNat B C (one12 (rep (min n r.toNat))), old W]) :
    To Try.prog 11 (Cfg.here Try.f11 13 j [(5, .bool true), (6, .int .i64 r), (7, .pointer (some ⟨nb, 0, none⟩)), (9, .int .i64 n), (10, .int .i64 n)]) w (LawEnd W) := by
  have i12 : isLane 2 1 2 := by decide
  have i21 : isLane 2 2 1 := by decide
  have hrr : ((r.toNat : Nat) : Int) = r := by omega
  have c0 : ∀ ys : List Value, ys.length ≤ 1000 → Trip Try.prog 53 [.pointer (some ⟨nb, 0, none⟩)] [cel nb 119 (netCells 2 B), lanes 25 106 r.toNat B C (one12 ys)] (fun v l => v = .int .i64 (ys.length : Nat) ∧ l = [cel nb 119 (netCells 2 B), lanes 25 106 r.toNat B C (one12 ys)]) := by
    intro ys hy
    have := NAllS nb r.toNat 2 B C (one12 ys) (by decide) (one12_le ys hy)
    simp only [sum12] at this
    exact this
  rcases Nat.eq_zero_or_pos n with h0 | hp
  · subst h0
    rw [show min 0 r.toNat = 0 by omega, show rep 0 = [] from rfl] at hs
    have c1 := NTurnS_none nb r.toNat 2 1 2 B C (one12 []) (by decide) i12 (one12_at _)
    have c2 := NLenS_is nb r.toNat 2 1 2 B C (one12 []) (by decide) i12
    simp only [one12_at, List.length_nil] at c2
    have c3 := NCopyS_none nb r.toNat 2 1 2 B C (one12 []) (by decide) i12 (one12_at _)
    have c4 := c0 [] (by simp)
    have c5 := NLenS_is nb r.toNat 2 2 1 B C (one12 []) (by decide) i21
    rw [show one12 [] (ln 2 1) = [] from rfl] at c5
    have c6 := NSendS_room nb r.toNat 2 2 1 B C (one12 []) (by decide) i21 (by rw [show one12 [] (ln 2 1) = [] from rfl]; simp; omega) (.string ⟨#[120]⟩)
    have g1 : ¬ r < 0 := by omega
    refine To.run 19 ?_
    refine To.one (One.call 3 [0, 1] [2] (g := 47) (args := [Value.pointer (some { block := nb, off := 0 }), Value.int IntKind.i64 1, Value.int IntKind.i64 2]) (by kernel_rfl) hs (c1) (by decide) rfl ?_)
    rintro _ _ w1 ⟨rfl, rfl⟩ hs1
    simp only [pickAll, List.filterMap_cons, List.filterMap_nil, List.getElem?_cons_zero, List.getElem?_cons_succ, List.cons_append, List.nil_append, List.drop_succ_cons, List.drop_zero] at hs1
    clear hs
    refine To.run 5 ?_
    refine To.one (One.call 3 [0, 1] [2] (g := 51) (args := [Value.pointer (some { block := nb, off := 0 }), Value.int IntKind.i64 1, Value.int IntKind.i64 2]) (by kernel_rfl) hs1 (c2) (by decide) rfl ?_)
    rintro _ _ w2 ⟨rfl, rfl⟩ hs2
    simp only [pickAll, List.filterMap_cons, List.filterMap_nil, List.getElem?_cons_zero, List.getElem?_cons_succ, List.cons_append, List.nil_append, List.drop_succ_cons, List.drop_zero] at hs2
    clear hs1
    refine To.run 5 ?_
    refine To.one (One.call 3 [0, 1] [2] (g := 45) (args := [Value.pointer (some { block := nb, off := 0 }), Value.int IntKind.i64 1, Value.int IntKind.i64 2]) (by kernel_rfl) hs2 (c3) (by decide) rfl ?_)
    rintro _ _ w3 ⟨rfl, rfl⟩ hs1
    simp only [pickAll, List.filterMap_cons, List.filterMap_nil, List.getElem?_cons_zero, List.getElem?_cons_succ, List.cons_append, List.nil_append, List.drop_succ_cons, List.drop_zero] at hs1
    clear hs2
    refine To.run 12 ?_
    refine To.isTrue 63 (t := false == decide ((if r < 0 then r else 0) > 0)) (by kernel_rfl) (by (simp; omega)) ?_
    refine To.run 5 ?_
    refine To.isTrue 68 (t := 0 == if r < 0 then r else 0) (by kernel_rfl) (by (simp; omega)) ?_
    refine To.run 4 ?_
    refine To.isFalse 72 (t := decide ((if r < 0 then r else 0) > 0)) (by kernel_rfl) (by (simp; omega)) ?_
    refine To.run 8 ?_
    refine To.one (One.call 3 [0, 1] [2] (g := 53) (args := [Value.pointer (some { block := nb, off := 0 })]) (by kernel_rfl) hs1 (c4) (by decide) rfl ?_)
    rintro _ _ w4 ⟨rfl, rfl⟩ hs2
    simp only [pickAll, List.filterMap_cons, List.filterMap_nil, List.getElem?_cons_zero, List.getElem?_cons_succ, List.cons_append, List.nil_append, List.drop_succ_cons, List.drop_zero] at hs2
    clear hs1
    refine To.run 4 ?_
    refine To.isTrue 85 (t := decide (0 ≤ r)) (by kernel_rfl) (by (simp; omega)) ?_
    refine To.run 1 ?_
    refine To.one (One.call 3 [0, 1] [2] (g := 51) (args := [Value.pointer (some { block := nb, off := 0 }), Value.int IntKind.i64 2, Value.int IntKind.i64 1]) (by kernel_rfl) hs2 (c5) (by decide) rfl ?_)
    rintro _ _ w5 ⟨rfl, rfl⟩ hs1
    simp only [pickAll, List.filterMap_cons, List.filterMap_nil, List.getElem?_cons_zero, List.getElem?_cons_succ, List.cons_append, List.nil_append, List.drop_succ_cons, List.drop_zero] at hs1
    clear hs2
    refine To.run 4 ?_
    refine To.one (One.call 3 [0, 1] [2] (g := 49) (args := [Value.pointer (some { block := nb, off := 0 }), Value.int IntKind.i64 2, Value.int IntKind.i64 1, Value.string { data := #[120] }]) (by kernel_rfl) hs1 (c6) (by decide) rfl ?_)
    rintro _ _ w6 ⟨rfl, rfl⟩ hs2
    simp only [pickAll, List.filterMap_cons, List.filterMap_nil, List.getElem?_cons_zero, List.getElem?_cons_succ, List.cons_append, List.nil_append, List.drop_succ_cons, List.drop_zero] at hs2
    clear hs1
    refine To.run 3 ?_
    refine To.retv Try.func11 (by kernel_rfl) (v := Value.bool true) (by kernel_rfl) ?_
    exact hs2.lawEnd 2 rfl
  · obtain ⟨q, hq⟩ : ∃ q, min n r.toNat = q + 1 := ⟨min n r.toNat - 1, by omega⟩
    have hq15 : q ≤ 15 := by omega
    rw [hq] at hs
    have e1 : rep (q + 1) = .string ⟨#[109]⟩ :: rep q := rfl
    have c1 := NTurnS_some nb r.toNat 2 1 2 B C (one12 (rep (q + 1))) (by decide) i12 (.string ⟨#[109]⟩) (rep q) (one12_at _) (by rw [rep_len]; omega)
    simp only [one12_put, rep_succ] at c1
    have c2 := NLenS_is nb r.toNat 2 1 2 B C (one12 (rep (q + 1))) (by decide) i12
    simp only [one12_at, rep_len] at c2
    by_cases hf : q + 1 < r.toNat
    · have hnq : n = q + 1 := by omega
      subst hnq
      have hX : one12 (rep (q + 1)) (ln 1 2) = ((⟨#[109]⟩ : ByteArray) :: List.replicate q ⟨#[109]⟩).map Value.string := by rw [one12_at, e1, List.map_cons, List.map_replicate]; rfl
      have c3 := NCopyS_ok nb r.toNat 2 1 2 B C (one12 (rep (q + 1))) (by decide) i12 ⟨#[109]⟩ (List.replicate q ⟨#[109]⟩) hX (by simp; omega) (by omega)
      have e2 : List.map Value.string ((⟨#[109]⟩ : ByteArray) :: List.replicate q ⟨#[109]⟩ ++ [⟨#[109]⟩]) = rep (q + 2) := by
        rw [List.map_append, List.map_cons, List.map_replicate]
        exact rep_succ (q + 1)
      simp only [one12_put, e2] at c3
      have c4 := c0 (rep (q + 2)) (by rw [rep_len]; omega)
      rw [rep_len] at c4
      have c5 := NLenS_is nb r.toNat 2 2 1 B C (one12 (rep (q + 2))) (by decide) i21
      rw [show one12 (rep (q + 2)) (ln 2 1) = [] from rfl] at c5
      have c6 := NSendS_room nb r.toNat 2 2 1 B C (one12 (rep (q + 2))) (by decide) i21 (by rw [show one12 (rep (q + 2)) (ln 2 1) = [] from rfl]; simp; omega) (.string ⟨#[120]⟩)
      have g1 : ¬ r < (q : Int) + 1 := by omega
      have g2 : (q : Int) + 1 < r := by omega
      have g3 : (q : Int) + 2 ≤ r := by omega
      clear e1 e2 hX
      refine To.run 7 ?_
      refine To.isFalse 38 (t := decide ((↑(q + 1) : Int) < (↑(q + 1) : Int))) (by kernel_rfl) (by simp) ?_
      refine To.run 12 ?_
      refine To.one (One.call 3 [0, 1] [2] (g := 47) (args := [Value.pointer (some { block := nb, off := 0 }), Value.int IntKind.i64 1, Value.int IntKind.i64 2]) (by kernel_rfl) hs (c1) (by decide) rfl ?_)
      rintro _ _ w1 ⟨rfl, rfl⟩ hs1
      simp only [pickAll, List.filterMap_cons, List.filterMap_nil, List.getElem?_cons_zero, List.getElem?_cons_succ, List.cons_append, List.nil_append, List.drop_succ_cons, List.drop_zero] at hs1
      clear hs
      refine To.run 5 ?_
      refine To.one (One.call 3 [0, 1] [2] (g := 51) (args := [Value.pointer (some { block := nb, off := 0 }), Value.int IntKind.i64 1, Value.int IntKind.i64 2]) (by kernel_rfl) hs1 (c2) (by decide) rfl ?_)
      rintro _ _ w2 ⟨rfl, rfl⟩ hs2
      simp only [pickAll, List.filterMap_cons, List.filterMap_nil, List.getElem?_cons_zero, List.getElem?_cons_succ, List.cons_append, List.nil_append, List.drop_succ_cons, List.drop_zero] at hs2
      clear hs1
      refine To.run 5 ?_
      refine To.one (One.call 3 [0, 1] [2] (g := 45) (args := [Value.pointer (some { block := nb, off := 0 }), Value.int IntKind.i64 1, Value.int IntKind.i64 2]) (by kernel_rfl) hs2 (c3) (by decide) rfl ?_)
      rintro _ _ w3 ⟨rfl, rfl⟩ hs1
      simp only [pickAll, List.filterMap_cons, List.filterMap_nil, List.getElem?_cons_zero, List.getElem?_cons_succ, List.cons_append, List.nil_append, List.drop_succ_cons, List.drop_zero] at hs1
      clear hs2
      refine To.run 12 ?_
      refine To.isTrue 63 (t := true == decide ((if r < (↑(q + 1) : Int) then r else (↑(q + 1) : Int)) > 0)) (by kernel_rfl) (by (simp; omega)) ?_
      refine To.run 5 ?_
      refine To.isTrue 68 (t := (↑(q + 1) : Int) == if r < (↑(q + 1) : Int) then r else (↑(q + 1) : Int)) (by kernel_rfl) (by (simp; omega)) ?_
      refine To.run 4 ?_
      refine To.isTrue 72 (t := decide ((if r < (↑(q + 1) : Int) then r else (↑(q + 1) : Int)) > 0)) (by kernel_rfl) (by (simp; omega)) ?_
      refine To.run 7 ?_
      refine To.isTrue 79 (t := true == decide ((if r < (↑(q + 1) : Int) then r else (↑(q + 1) : Int)) < r)) (by kernel_rfl) (by (simp; omega)) ?_
      refine To.run 1 ?_
      refine To.one (One.call 3 [0, 1] [2] (g := 53) (args := [Value.pointer (some { block := nb, off := 0 })]) (by kernel_rfl) hs1 (c4) (by decide) rfl ?_)
      rintro _ _ w4 ⟨rfl, rfl⟩ hs2
      simp only [pickAll, List.filterMap_cons, List.filterMap_nil, List.getElem?_cons_zero, List.getElem?_cons_succ, List.cons_append, List.nil_append, List.drop_succ_cons, List.drop_zero] at hs2
      clear hs1
      refine To.run 4 ?_
      refine To.isTrue 85 (t := decide ((↑(q + 2) : Int) ≤ r)) (by kernel_rfl) (by (simp; omega)) ?_
      refine To.run 1 ?_
      refine To.one (One.call 3 [0, 1] [2] (g := 51) (args := [Value.pointer (some { block := nb, off := 0 }), Value.int IntKind.i64 2, Value.int IntKind.i64 1]) (by kernel_rfl) hs2 (c5) (by decide) rfl ?_)
      rintro _ _ w5 ⟨rfl, rfl⟩ hs1
      simp only [pickAll, List.filterMap_cons, List.filterMap_nil, List.getElem?_cons_zero, List.getElem?_cons_succ, List.cons_append, List.nil_append, List.drop_succ_cons, List.drop_zero] at hs1
      clear hs2
      refine To.run 4 ?_
      refine To.one (One.call 3 [0, 1] [2] (g := 49) (args := [Value.pointer (some { block := nb, off := 0 }), Value.int IntKind.i64 2, Value.int IntKind.i64 1, Value.string { data := #[120] }]) (by kernel_rfl) hs1 (c6) (by decide) rfl ?_)
      rintro _ _ w6 ⟨rfl, rfl⟩ hs2
      simp only [pickAll, List.filterMap_cons, List.filterMap_nil, List.getElem?_cons_zero, List.getElem?_cons_succ, List.cons_append, List.nil_append, List.drop_succ_cons, List.drop_zero] at hs2
      clear hs1
      refine To.run 3 ?_
      refine To.retv Try.func11 (by kernel_rfl) (v := Value.bool true) (by kernel_rfl) ?_
      exact hs2.lawEnd 2 rfl
    · have hR : r.toNat = q + 1 := by omega
      have c3 := NCopyS_full nb r.toNat 2 1 2 B C (one12 (rep (q + 1))) (by decide) i12 (by rw [one12_at, rep_len]; omega) (by rw [one12_at, rep_len]; omega)
      have c4 := c0 (rep (q + 1)) (by rw [rep_len]; omega)
      rw [rep_len] at c4
      have c5 := NLenS_is nb r.toNat 2 2 1 B C (one12 (rep (q + 1))) (by decide) i21
      rw [show one12 (rep (q + 1)) (ln 2 1) = [] from rfl] at c5
      have c6 := NSendS_room nb r.toNat 2 2 1 B C (one12 (rep (q + 1))) (by decide) i21 (by rw [show one12 (rep (q + 1)) (ln 2 1) = [] from rfl]; simp; omega) (.string ⟨#[120]⟩)
      have hr' : r = (q : Int) + 1 := by omega
      by_cases g : r < (n : Int)
      · clear e1 hR
        refine To.run 7 ?_
        refine To.isFalse 38 (t := decide ((↑n : Int) < (↑n : Int))) (by kernel_rfl) (by simp) ?_
        refine To.run 12 ?_
        refine To.one (One.call 3 [0, 1] [2] (g := 47) (args := [Value.pointer (some { block := nb, off := 0 }), Value.int IntKind.i64 1, Value.int IntKind.i64 2]) (by kernel_rfl) hs (c1) (by decide) rfl ?_)
        rintro _ _ w1 ⟨rfl, rfl⟩ hs1
        simp only [pickAll, List.filterMap_cons, List.filterMap_nil, List.getElem?_cons_zero, List.getElem?_cons_succ, List.cons_append, List.nil_append, List.drop_succ_cons, List.drop_zero] at hs1
        clear hs
        refine To.run 5 ?_
        refine To.one (One.call 3 [0, 1] [2] (g := 51) (args := [Value.pointer (some { block := nb, off := 0 }), Value.int IntKind.i64 1, Value.int IntKind.i64 2]) (by kernel_rfl) hs1 (c2) (by decide) rfl ?_)
        rintro _ _ w2 ⟨rfl, rfl⟩ hs2
        simp only [pickAll, List.filterMap_cons, List.filterMap_nil, List.getElem?_cons_zero, List.getElem?_cons_succ, List.cons_append, List.nil_append, List.drop_succ_cons, List.drop_zero] at hs2
        clear hs1
        refine To.run 5 ?_
        refine To.one (One.call 3 [0, 1] [2] (g := 45) (args := [Value.pointer (some { block := nb, off := 0 }), Value.int IntKind.i64 1, Value.int IntKind.i64 2]) (by kernel_rfl) hs2 (c3) (by decide) rfl ?_)
        rintro _ _ w3 ⟨rfl, rfl⟩ hs1
        simp only [pickAll, List.filterMap_cons, List.filterMap_nil, List.getElem?_cons_zero, List.getElem?_cons_succ, List.cons_append, List.nil_append, List.drop_succ_cons, List.drop_zero] at hs1
        clear hs2
        refine To.run 12 ?_
        refine To.isTrue 63 (t := true == decide ((if r < (↑n : Int) then r else (↑n : Int)) > 0)) (by kernel_rfl) (by (simp; omega)) ?_
        refine To.run 5 ?_
        refine To.isTrue 68 (t := (↑(q + 1) : Int) == if r < (↑n : Int) then r else (↑n : Int)) (by kernel_rfl) (by (simp; omega)) ?_
        refine To.run 4 ?_
        refine To.isTrue 72 (t := decide ((if r < (↑n : Int) then r else (↑n : Int)) > 0)) (by kernel_rfl) (by (simp; omega)) ?_
        refine To.run 7 ?_
        refine To.isTrue 79 (t := false == decide ((if r < (↑n : Int) then r else (↑n : Int)) < r)) (by kernel_rfl) (by (simp; omega)) ?_
        refine To.run 1 ?_
        refine To.one (One.call 3 [0, 1] [2] (g := 53) (args := [Value.pointer (some { block := nb, off := 0 })]) (by kernel_rfl) hs1 (c4) (by decide) rfl ?_)
        rintro _ _ w4 ⟨rfl, rfl⟩ hs2
        simp only [pickAll, List.filterMap_cons, List.filterMap_nil, List.getElem?_cons_zero, List.getElem?_cons_succ, List.cons_append, List.nil_append, List.drop_succ_cons, List.drop_zero] at hs2
        clear hs1
        refine To.run 4 ?_
        refine To.isTrue 85 (t := decide ((↑(q + 1) : Int) ≤ r)) (by kernel_rfl) (by (simp; omega)) ?_
        refine To.run 1 ?_
        refine To.one (One.call 3 [0, 1] [2] (g := 51) (args := [Value.pointer (some { block := nb, off := 0 }), Value.int IntKind.i64 2, Value.int IntKind.i64 1]) (by kernel_rfl) hs2 (c5) (by decide) rfl ?_)
        rintro _ _ w5 ⟨rfl, rfl⟩ hs1
        simp only [pickAll, List.filterMap_cons, List.filterMap_nil, List.getElem?_cons_zero, List.getElem?_cons_succ, List.cons_append, List.nil_append, List.drop_succ_cons, List.drop_zero] at hs1
        clear hs2
        refine To.run 4 ?_
        refine To.one (One.call 3 [0, 1] [2] (g := 49) (args := [Value.pointer (some { block := nb, off := 0 }), Value.int IntKind.i64 2, Value.int IntKind.i64 1, Value.string { data := #[120] }]) (by kernel_rfl) hs1 (c6) (by decide) rfl ?_)
        rintro _ _ w6 ⟨rfl, rfl⟩ hs2
        simp only [pickAll, List.filterMap_cons, List.filterMap_nil, List.getElem?_cons_zero, List.getElem?_cons_succ, List.cons_append, List.nil_append, List.drop_succ_cons, List.drop_zero] at hs2
        clear hs1
        refine To.run 3 ?_
        refine To.retv Try.func11 (by kernel_rfl) (v := Value.bool true) (by kernel_rfl) ?_
        exact hs2.lawEnd 2 rfl
      · have g2 : (n : Int) = (q : Int) + 1 := by omega
        clear e1 hR
        refine To.run 7 ?_
        refine To.isFalse 38 (t := decide ((↑n : Int) < (↑n : Int))) (by kernel_rfl) (by simp) ?_
        refine To.run 12 ?_
        refine To.one (One.call 3 [0, 1] [2] (g := 47) (args := [Value.pointer (some { block := nb, off := 0 }), Value.int IntKind.i64 1, Value.int IntKind.i64 2]) (by kernel_rfl) hs (c1) (by decide) rfl ?_)
        rintro _ _ w1 ⟨rfl, rfl⟩ hs1
        simp only [pickAll, List.filterMap_cons, List.filterMap_nil, List.getElem?_cons_zero, List.getElem?_cons_succ, List.cons_append, List.nil_append, List.drop_succ_cons, List.drop_zero] at hs1
        clear hs
        refine To.run 5 ?_
        refine To.one (One.call 3 [0, 1] [2] (g := 51) (args := [Value.pointer (some { block := nb, off := 0 }), Value.int IntKind.i64 1, Value.int IntKind.i64 2]) (by kernel_rfl) hs1 (c2) (by decide) rfl ?_)
        rintro _ _ w2 ⟨rfl, rfl⟩ hs2
        simp only [pickAll, List.filterMap_cons, List.filterMap_nil, List.getElem?_cons_zero, List.getElem?_cons_succ, List.cons_append, List.nil_append, List.drop_succ_cons, List.drop_zero] at hs2
        clear hs1
        refine To.run 5 ?_
        refine To.one (One.call 3 [0, 1] [2] (g := 45) (args := [Value.pointer (some { block := nb, off := 0 }), Value.int IntKind.i64 1, Value.int IntKind.i64 2]) (by kernel_rfl) hs2 (c3) (by decide) rfl ?_)
        rintro _ _ w3 ⟨rfl, rfl⟩ hs1
        simp only [pickAll, List.filterMap_cons, List.filterMap_nil, List.getElem?_cons_zero, List.getElem?_cons_succ, List.cons_append, List.nil_append, List.drop_succ_cons, List.drop_zero] at hs1
        clear hs2
        refine To.run 12 ?_
        refine To.isTrue 63 (t := true == decide ((if r < (↑n : Int) then r else (↑n : Int)) > 0)) (by kernel_rfl) (by (simp; omega)) ?_
        refine To.run 5 ?_
        refine To.isTrue 68 (t := (↑(q + 1) : Int) == if r < (↑n : Int) then r else (↑n : Int)) (by kernel_rfl) (by (simp; omega)) ?_
        refine To.run 4 ?_
        refine To.isTrue 72 (t := decide ((if r < (↑n : Int) then r else (↑n : Int)) > 0)) (by kernel_rfl) (by (simp; omega)) ?_
        refine To.run 7 ?_
        refine To.isTrue 79 (t := false == decide ((if r < (↑n : Int) then r else (↑n : Int)) < r)) (by kernel_rfl) (by (simp; omega)) ?_
        refine To.run 1 ?_
        refine To.one (One.call 3 [0, 1] [2] (g := 53) (args := [Value.pointer (some { block := nb, off := 0 })]) (by kernel_rfl) hs1 (c4) (by decide) rfl ?_)
        rintro _ _ w4 ⟨rfl, rfl⟩ hs2
        simp only [pickAll, List.filterMap_cons, List.filterMap_nil, List.getElem?_cons_zero, List.getElem?_cons_succ, List.cons_append, List.nil_append, List.drop_succ_cons, List.drop_zero] at hs2
        clear hs1
        refine To.run 4 ?_
        refine To.isTrue 85 (t := decide ((↑(q + 1) : Int) ≤ r)) (by kernel_rfl) (by (simp; omega)) ?_
        refine To.run 1 ?_
        refine To.one (One.call 3 [0, 1] [2] (g := 51) (args := [Value.pointer (some { block := nb, off := 0 }), Value.int IntKind.i64 2, Value.int IntKind.i64 1]) (by kernel_rfl) hs2 (c5) (by decide) rfl ?_)
        rintro _ _ w5 ⟨rfl, rfl⟩ hs1
        simp only [pickAll, List.filterMap_cons, List.filterMap_nil, List.getElem?_cons_zero, List.getElem?_cons_succ, List.cons_append, List.nil_append, List.drop_succ_cons, List.drop_zero] at hs1
        clear hs2
        refine To.run 4 ?_
        refine To.one (One.call 3 [0, 1] [2] (g := 49) (args := [Value.pointer (some { block := nb, off := 0 }), Value.int IntKind.i64 2, Value.int IntKind.i64 1, Value.string { data := #[120] }]) (by kernel_rfl) hs1 (c6) (by decide) rfl ?_)
        rintro _ _ w6 ⟨rfl, rfl⟩ hs2
        simp only [pickAll, List.filterMap_cons, List.filterMap_nil, List.getElem?_cons_zero, List.getElem?_cons_succ, List.cons_append, List.nil_append, List.drop_succ_cons, List.drop_zero] at hs2
        clear hs1
        refine To.run 3 ?_
        refine To.retv Try.func11 (by kernel_rfl) (v := Value.bool true) (by kernel_rfl) ?_
        exact hs2.lawEnd 2 rfl

theorem near20 (a : Int) (h0 : 0 ≤ a) (h1 : a ≤ 255) : ∃ n : Nat, Value.int .i64 (IntKind.i64.wrap (a.tmod 20)) = Value.int .i64 (n : Int) ∧ n < 20 := by
  have h2 : a.tmod 20 = a % 20 := Int.tmod_eq_emod_of_nonneg h0
  refine ⟨(a % 20).toNat, ?_, by omega⟩
  rw [h2, wrap_i64 (e := a % 20) (by omega) (by omega)]
  congr 1
  omega

theorem NR_law (W : World) (a d : Int) (ha0 : 0 ≤ a) (ha1 : a ≤ 255) (hd0 : 0 ≤ d) (hd1 : d ≤ 255) : Calls Try.prog 11 #[.int .u8 a, .int .u8 d] W (LawEnd W) := by
  refine Sx.start (args := [_, _]) Try.func11 (by kernel_rfl) ?_
  have hs := Sat.start W
  obtain ⟨r, hr, h1, h2⟩ := near16 a ha0 ha1
  obtain ⟨n, hn, hn20⟩ := near20 d hd0 hd1
  refine To.run 6 ?_
  refine To.one (One.call 1 [] [0] (g := 39) (args := []) (by kernel_rfl) hs (examples17_ok) (by decide) rfl ?_)
  rintro _ _ w1 ⟨rfl, rfl⟩ hs1
  simp only [pickAll, List.filterMap_cons, List.filterMap_nil, List.getElem?_cons_zero, List.getElem?_cons_succ, List.cons_append, List.nil_append, List.drop_succ_cons, List.drop_zero] at hs1
  clear hs
  refine To.run 15 ?_
  refine To.run 1 ?_
  refine To.run 5 ?_
  refine To.known 6 _ (by kernel_rfl) hr ?_
  refine To.known 23 _ (by kernel_rfl) hr ?_
  clear hr
  refine To.one (One.call 1 [] [0] (g := 40) (args := [Value.int IntKind.i64 2, Value.int IntKind.i64 r]) (by kernel_rfl) hs1 (NNewS_ok (2) (r) (by omega) (by omega) (by assumption) (by assumption)) (by decide) rfl ?_)
  rintro _ _ w2 ⟨nb, B, C, rfl, rfl⟩ hs2
  simp only [pickAll, List.filterMap_cons, List.filterMap_nil, List.getElem?_cons_zero, List.getElem?_cons_succ, List.cons_append, List.nil_append, List.drop_succ_cons, List.drop_zero] at hs2
  clear hs1
  refine To.run 23 ?_
  refine To.run 8 ?_
  refine To.known 9 _ (by kernel_rfl) hn ?_
  refine To.run 1 ?_
  refine To.at (fn := Try.f11) (n := 13) (l := [(5, Value.bool true), (6, Value.int IntKind.i64 r), (7, Value.pointer (some { block := nb, off := 0 })), (9, Value.int IntKind.i64 (↑n : Int)), (10, Value.int IntKind.i64 0)]) (by kernel_rfl) fun j => ?_
  exact NR_loop W nb B C r h1 h2 n hn20 (fun j w hs => NR_end W nb B C r h1 h2 n hn20 j w hs) n 0 _ _ (by omega) (by rw [Nat.zero_min]; exact hs2)
end Go.Proofs.Ythojpcfaaiefhaa
