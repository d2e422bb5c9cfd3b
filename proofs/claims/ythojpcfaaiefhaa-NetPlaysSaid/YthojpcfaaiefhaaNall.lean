import Derived.Test.YthojpcfaaiefhaaProg
import Derived.Test.YthojpcfaaiefhaaSxLaw
import Derived.Test.YthojpcfaaiefhaaNops
set_option linter.unusedSimpArgs false
set_option linter.unusedVariables false
namespace Go.Proofs.Ythojpcfaaiefhaa
open Go Go.Sx
set_option linter.unusedSimpArgs false
set_option maxHeartbeats 0

instance (dcs f t : Int) : Decidable (isLane dcs f t) := by unfold isLane; infer_instance
/-- How many are under way from f to t. -/
def lenAt (dcs : Int) (X : Nat → List Value) (f t : Int) : Nat := if isLane dcs f t then (X (ln f t)).length else 0
/-- In the first n lanes. -/
def sumTo (dcs : Int) (X : Nat → List Value) : Nat → Nat
  | 0 => 0
  | n + 1 => sumTo dcs X n + lenAt dcs X (n / 5 : Nat) (n % 5 : Nat)
theorem lenAt_le {dcs : Int} {X : Nat → List Value} {m : Nat} (hX : ∀ i, (X i).length ≤ m) (f t : Int) : lenAt dcs X f t ≤ m := by
  unfold lenAt
  split
  · exact hX _
  · omega
theorem sumTo_le {dcs : Int} {X : Nat → List Value} {m : Nat} (hX : ∀ i, (X i).length ≤ m) : ∀ n, sumTo dcs X n ≤ n * m
  | 0 => by simp [sumTo]
  | n + 1 => by
    have h1 := sumTo_le (dcs := dcs) hX n
    have h2 := lenAt_le (dcs := dcs) hX (n / 5 : Nat) (n % 5 : Nat)
    rw [sumTo, Nat.succ_mul]
    omega
theorem sumTo_step (dcs : Int) (X : Nat → List Value) (f t : Nat) (ht : t < 5) : sumTo dcs X (f * 5 + (t + 1)) = sumTo dcs X (f * 5 + t) + lenAt dcs X f t := by
  rw [← Nat.add_assoc, sumTo]
  have e1 : (f * 5 + t) / 5 = f := by omega
  have e2 : (f * 5 + t) % 5 = t := by omega
  rw [e1, e2]

theorem NLenS_at (nb R : Nat) (dcs f t : Int) (B C : Nat → Nat) (X : Nat → List Value) (h4 : dcs ≤ 4) : Trip Try.prog 51 [.pointer (some ⟨nb, 0, none⟩), .int .i64 f, .int .i64 t] [cel nb 119 (netCells dcs B), lanes 25 106 R B C X]
    (fun v l => v = .int .i64 (lenAt dcs X f t) ∧ l = [cel nb 119 (netCells dcs B), lanes 25 106 R B C X]) := by
  unfold lenAt
  split
  · rename_i h
    exact NLenS_is nb R dcs f t B C X h4 h
  · rename_i h
    exact NLenS_no nb R dcs f t B C X h

theorem NAllS_in (E : World) (L : List Res) (Q : Ending → World → Prop) (nb R : Nat) (dcs : Int) (B C : Nat → Nat) (X : Nat → List Value) (h4 : dcs ≤ 4) (hX : ∀ i, (X i).length ≤ 1000) (f : Nat) (hf : f < 5)
    (fin : ∀ (j : Nat → Value) (w : World), Sat E w (cel nb 119 (netCells dcs B) :: lanes 25 106 R B C X :: L) → To Try.prog 53 (Cfg.here Try.f53 4 j [(0, .pointer (some ⟨nb, 0, none⟩)), (3, .int .i64 (sumTo dcs X ((f + 1) * 5) : Nat)), (6, .int .i64 (f + 1))]) w Q) :
    ∀ (m t : Nat) (j : Nat → Value) (w : World), t + m = 5 → Sat E w (cel nb 119 (netCells dcs B) :: lanes 25 106 R B C X :: L) → To Try.prog 53 (Cfg.here Try.f53 10 j [(0, .pointer (some ⟨nb, 0, none⟩)), (3, .int .i64 (sumTo dcs X (f * 5 + t) : Nat)), (4, .int .i64 f), (6, .int .i64 f), (9, .int .i64 t)]) w Q := by
  intro m
  induction m with
  | zero =>
    intro t j w ht hs
    obtain rfl : t = 5 := by omega
    have e1 : f * 5 + 5 = (f + 1) * 5 := by omega
    rw [e1]
    refine To.run 10 ?_
    refine To.known 19 (v := .int .i64 (IntKind.i64.wrap ((↑f : Int) + 1))) (.int .i64 ((↑f : Int) + 1)) (by kernel_rfl) (by rw [wrap_i64 (by omega) (by omega)]) ?_
    refine To.run 2 ?_
    refine To.run 1 ?_
    refine To.at (fn := Try.f53) (n := 4) (l := [(0, Value.pointer (some { block := nb, off := 0 })), (3, Value.int IntKind.i64 (↑(sumTo dcs X ((f + 1) * 5)) : Int)), (6, Value.int IntKind.i64 ((↑f : Int) + 1))]) (by kernel_rfl) fun j => ?_
    exact fin _ _ hs
  | succ m ih =>
    intro t j w ht hs
    have b1 := lenAt_le (dcs := dcs) hX f t
    have b2 := sumTo_le (dcs := dcs) hX (f * 5 + t)
    have b3 : sumTo dcs X (f * 5 + t) ≤ 30000 := by omega
    have ht5 : t < 5 := by omega
    have e1 := sumTo_step dcs X f t ht5
    refine To.run 5 ?_
    refine To.isTrue 10 (t := decide ((↑t : Int) < 5)) (by kernel_rfl) (by (simp; omega)) ?_
    refine To.run 14 ?_
    refine To.one (One.call 2 [0, 1] [] (g := 51) (args := [Value.pointer (some { block := nb, off := 0 }), Value.int IntKind.i64 (↑f : Int), Value.int IntKind.i64 (↑t : Int)]) (by kernel_rfl) hs (NLenS_at (nb) (R) (dcs) ((↑f : Int)) ((↑t : Int)) (B) (C) (X) (by assumption)) (by decide) rfl ?_)
    rintro _ _ w1 ⟨rfl, rfl⟩ hs1
    simp only [pickAll, List.filterMap_cons, List.filterMap_nil, List.getElem?_cons_zero, List.getElem?_cons_succ, List.cons_append, List.nil_append, List.drop_succ_cons, List.drop_zero] at hs1
    clear hs
    refine To.run 1 ?_
    refine To.known 17 (v := .int .i64 (IntKind.i64.wrap ((↑(sumTo dcs X (f * 5 + t)) : Int) + (↑(lenAt dcs X (↑f : Int) (↑t : Int)) : Int)))) (.int .i64 ((↑(sumTo dcs X (f * 5 + t)) : Int) + (↑(lenAt dcs X (↑f : Int) (↑t : Int)) : Int))) (by kernel_rfl) (by rw [wrap_i64 (by omega) (by omega)]) ?_
    refine To.run 5 ?_
    refine To.known 18 (v := .int .i64 (IntKind.i64.wrap ((↑t : Int) + 1))) (.int .i64 ((↑t : Int) + 1)) (by kernel_rfl) (by rw [wrap_i64 (by omega) (by omega)]) ?_
    refine To.run 2 ?_
    refine To.run 1 ?_
    refine To.at (fn := Try.f53) (n := 10) (l := [(0, Value.pointer (some { block := nb, off := 0 })), (3, Value.int IntKind.i64 ((↑(sumTo dcs X (f * 5 + t)) : Int) + (↑(lenAt dcs X (↑f : Int) (↑t : Int)) : Int))), (4, Value.int IntKind.i64 (↑f : Int)), (6, Value.int IntKind.i64 (↑f : Int)), (9, Value.int IntKind.i64 ((↑t : Int) + 1))]) (by kernel_rfl) fun j => ?_
    have e2 : ((sumTo dcs X (f * 5 + t) : Nat) : Int) + (lenAt dcs X f t : Nat) = ((sumTo dcs X (f * 5 + (t + 1)) : Nat) : Int) := by rw [e1]; rfl
    rw [e2]
    exact ih (t + 1) _ _ (by omega) hs1

theorem NAllS_out (E : World) (L : List Res) (Q : Ending → World → Prop) (nb R : Nat) (dcs : Int) (B C : Nat → Nat) (X : Nat → List Value) (h4 : dcs ≤ 4) (hX : ∀ i, (X i).length ≤ 1000)
    (fin : ∀ (w : World), Sat E w (cel nb 119 (netCells dcs B) :: lanes 25 106 R B C X :: L) → Q (.returned (.int .i64 (sumTo dcs X 25 : Nat))) w) :
    ∀ (m f : Nat) (j : Nat → Value) (w : World), f + m = 5 → Sat E w (cel nb 119 (netCells dcs B) :: lanes 25 106 R B C X :: L) → To Try.prog 53 (Cfg.here Try.f53 4 j [(0, .pointer (some ⟨nb, 0, none⟩)), (3, .int .i64 (sumTo dcs X (f * 5) : Nat)), (6, .int .i64 f)]) w Q := by
  intro m
  induction m with
  | zero =>
    intro f j w hf hs
    obtain rfl : f = 5 := by omega
    refine To.run 12 ?_
    refine To.retv Try.func53 (by kernel_rfl) (v := Value.int IntKind.i64 (↑(sumTo dcs X (5 * 5)) : Int)) (by kernel_rfl) ?_
    exact fin _ hs
  | succ m ih =>
    intro f j w hf hs
    have hf5 : f < 5 := by omega
    refine To.run 5 ?_
    refine To.isTrue 7 (t := decide ((↑f : Int) < 5)) (by kernel_rfl) (by (simp; omega)) ?_
    refine To.run 14 ?_
    refine To.run 1 ?_
    refine To.at (fn := Try.f53) (n := 10) (l := [(0, Value.pointer (some { block := nb, off := 0 })), (3, Value.int IntKind.i64 (↑(sumTo dcs X (f * 5)) : Int)), (4, Value.int IntKind.i64 (↑f : Int)), (6, Value.int IntKind.i64 (↑f : Int)), (9, Value.int IntKind.i64 0)]) (by kernel_rfl) fun j => ?_
    exact NAllS_in E L Q nb R dcs B C X h4 hX f hf5 (fun j w hs => ih (f + 1) j w (by omega) hs) 5 0 _ _ rfl hs

theorem NAllS (nb R : Nat) (dcs : Int) (B C : Nat → Nat) (X : Nat → List Value) (h4 : dcs ≤ 4) (hX : ∀ i, (X i).length ≤ 1000) : Trip Try.prog 53 [.pointer (some ⟨nb, 0, none⟩)] [cel nb 119 (netCells dcs B), lanes 25 106 R B C X]
    (fun v l => v = .int .i64 (sumTo dcs X 25 : Nat) ∧ l = [cel nb 119 (netCells dcs B), lanes 25 106 R B C X]) := by
  refine Trip.of Try.func53 (by kernel_rfl) fun E w L hs => ?_
  simp only [List.cons_append, List.nil_append] at hs
  refine To.run 14 ?_
  refine To.run 1 ?_
  refine To.at (fn := Try.f53) (n := 4) (l := [(0, Value.pointer (some { block := nb, off := 0 })), (3, Value.int IntKind.i64 0), (6, Value.int IntKind.i64 0)]) (by kernel_rfl) fun j => ?_
  exact NAllS_out E L _ nb R dcs B C X h4 hX (fun w hs => ⟨_, _, rfl, ⟨rfl, rfl⟩, hs⟩) 5 0 _ _ rfl hs

theorem NLenI_at (nb R : Nat) (dcs f t : Int) (B C : Nat → Nat) (X : Nat → List Value) (h4 : dcs ≤ 4) : Trip Try.prog 58 [.pointer (some ⟨nb, 0, none⟩), .int .i64 f, .int .i64 t] [cel nb 128 (netCells dcs B), lanes 25 103 R B C X]
    (fun v l => v = .int .i64 (lenAt dcs X f t) ∧ l = [cel nb 128 (netCells dcs B), lanes 25 103 R B C X]) := by
  unfold lenAt
  split
  · rename_i h
    exact NLenI_is nb R dcs f t B C X h4 h
  · rename_i h
    exact NLenI_no nb R dcs f t B C X h

theorem NAllI_in (E : World) (L : List Res) (Q : Ending → World → Prop) (nb R : Nat) (dcs : Int) (B C : Nat → Nat) (X : Nat → List Value) (h4 : dcs ≤ 4) (hX : ∀ i, (X i).length ≤ 1000) (f : Nat) (hf : f < 5)
    (fin : ∀ (j : Nat → Value) (w : World), Sat E w (cel nb 128 (netCells dcs B) :: lanes 25 103 R B C X :: L) → To Try.prog 57 (Cfg.here Try.f57 4 j [(0, .pointer (some ⟨nb, 0, none⟩)), (3, .int .i64 (sumTo dcs X ((f + 1) * 5) : Nat)), (6, .int .i64 (f + 1))]) w Q) :
    ∀ (m t : Nat) (j : Nat → Value) (w : World), t + m = 5 → Sat E w (cel nb 128 (netCells dcs B) :: lanes 25 103 R B C X :: L) → To Try.prog 57 (Cfg.here Try.f57 10 j [(0, .pointer (some ⟨nb, 0, none⟩)), (3, .int .i64 (sumTo dcs X (f * 5 + t) : Nat)), (4, .int .i64 f), (6, .int .i64 f), (9, .int .i64 t)]) w Q := by
  intro m
  induction m with
  | zero =>
    intro t j w ht hs
    obtain rfl : t = 5 := by omega
    have e1 : f * 5 + 5 = (f + 1) * 5 := by omega
    rw [e1]
    refine To.run 10 ?_
    refine To.known 19 (v := .int .i64 (IntKind.i64.wrap ((↑f : Int) + 1))) (.int .i64 ((↑f : Int) + 1)) (by kernel_rfl) (by rw [wrap_i64 (by omega) (by omega)]) ?_
    refine To.run 2 ?_
    refine To.run 1 ?_
    refine To.at (fn := Try.f57) (n := 4) (l := [(0, Value.pointer (some { block := nb, off := 0 })), (3, Value.int IntKind.i64 (↑(sumTo dcs X ((f + 1) * 5)) : Int)), (6, Value.int IntKind.i64 ((↑f : Int) + 1))]) (by kernel_rfl) fun j => ?_
    exact fin _ _ hs
  | succ m ih =>
    intro t j w ht hs
    have b1 := lenAt_le (dcs := dcs) hX f t
    have b2 := sumTo_le (dcs := dcs) hX (f * 5 + t)
    have b3 : sumTo dcs X (f * 5 + t) ≤ 30000 := by omega
    have ht5 : t < 5 := by omega
    have e1 := sumTo_step dcs X f t ht5
    refine To.run 5 ?_
    refine To.isTrue 10 (t := decide ((↑t : Int) < 5)) (by kernel_rfl) (by (simp; omega)) ?_
    refine To.run 14 ?_
    refine To.one (One.call 2 [0, 1] [] (g := 58) (args := [Value.pointer (some { block := nb, off := 0 }), Value.int IntKind.i64 (↑f : Int), Value.int IntKind.i64 (↑t : Int)]) (by kernel_rfl) hs (NLenI_at (nb) (R) (dcs) ((↑f : Int)) ((↑t : Int)) (B) (C) (X) (by assumption)) (by decide) rfl ?_)
    rintro _ _ w1 ⟨rfl, rfl⟩ hs1
    simp only [pickAll, List.filterMap_cons, List.filterMap_nil, List.getElem?_cons_zero, List.getElem?_cons_succ, List.cons_append, List.nil_append, List.drop_succ_cons, List.drop_zero] at hs1
    clear hs
    refine To.run 1 ?_
    refine To.known 17 (v := .int .i64 (IntKind.i64.wrap ((↑(sumTo dcs X (f * 5 + t)) : Int) + (↑(lenAt dcs X (↑f : Int) (↑t : Int)) : Int)))) (.int .i64 ((↑(sumTo dcs X (f * 5 + t)) : Int) + (↑(lenAt dcs X (↑f : Int) (↑t : Int)) : Int))) (by kernel_rfl) (by rw [wrap_i64 (by omega) (by omega)]) ?_
    refine To.run 5 ?_
    refine To.known 18 (v := .int .i64 (IntKind.i64.wrap ((↑t : Int) + 1))) (.int .i64 ((↑t : Int) + 1)) (by kernel_rfl) (by rw [wrap_i64 (by omega) (by omega)]) ?_
    refine To.run 2 ?_
    refine To.run 1 ?_
    refine To.at (fn := Try.f57) (n := 10) (l := [(0, Value.pointer (some { block := nb, off := 0 })), (3, Value.int IntKind.i64 ((↑(sumTo dcs X (f * 5 + t)) : Int) + (↑(lenAt dcs X (↑f : Int) (↑t : Int)) : Int))), (4, Value.int IntKind.i64 (↑f : Int)), (6, Value.int IntKind.i64 (↑f : Int)), (9, Value.int IntKind.i64 ((↑t : Int) + 1))]) (by kernel_rfl) fun j => ?_
    have e2 : ((sumTo dcs X (f * 5 + t) : Nat) : Int) + (lenAt dcs X f t : Nat) = ((sumTo dcs X (f * 5 + (t + 1)) : Nat) : Int) := by rw [e1]; rfl
    rw [e2]
    exact ih (t + 1) _ _ (by omega) hs1

theorem NAllI_out (E : World) (L : List Res) (Q : Ending → World → Prop) (nb R : Nat) (dcs : Int) (B C : Nat → Nat) (X : Nat → List Value) (h4 : dcs ≤ 4) (hX : ∀ i, (X i).length ≤ 1000)
    (fin : ∀ (w : World), Sat E w (cel nb 128 (netCells dcs B) :: lanes 25 103 R B C X :: L) → Q (.returned (.int .i64 (sumTo dcs X 25 : Nat))) w) :
    ∀ (m f : Nat) (j : Nat → Value) (w : World), f + m = 5 → Sat E w (cel nb 128 (netCells dcs B) :: lanes 25 103 R B C X :: L) → To Try.prog 57 (Cfg.here Try.f57 4 j [(0, .pointer (some ⟨nb, 0, none⟩)), (3, .int .i64 (sumTo dcs X (f * 5) : Nat)), (6, .int .i64 f)]) w Q := by
  intro m
  induction m with
  | zero =>
    intro f j w hf hs
    obtain rfl : f = 5 := by omega
    refine To.run 12 ?_
    refine To.retv Try.func57 (by kernel_rfl) (v := Value.int IntKind.i64 (↑(sumTo dcs X (5 * 5)) : Int)) (by kernel_rfl) ?_
    exact fin _ hs
  | succ m ih =>
    intro f j w hf hs
    have hf5 : f < 5 := by omega
    refine To.run 5 ?_
    refine To.isTrue 7 (t := decide ((↑f : Int) < 5)) (by kernel_rfl) (by (simp; omega)) ?_
    refine To.run 14 ?_
    refine To.run 1 ?_
    refine To.at (fn := Try.f57) (n := 10) (l := [(0, Value.pointer (some { block := nb, off := 0 })), (3, Value.int IntKind.i64 (↑(sumTo dcs X (f * 5)) : Int)), (4, Value.int IntKind.i64 (↑f : Int)), (6, Value.int IntKind.i64 (↑f : Int)), (9, Value.int IntKind.i64 0)]) (by kernel_rfl) fun j => ?_
    exact NAllI_in E L Q nb R dcs B C X h4 hX f hf5 (fun j w hs => ih (f + 1) j w (by omega) hs) 5 0 _ _ rfl hs

theorem NAllI (nb R : Nat) (dcs : Int) (B C : Nat → Nat) (X : Nat → List Value) (h4 : dcs ≤ 4) (hX : ∀ i, (X i).length ≤ 1000) : Trip Try.prog 57 [.pointer (some ⟨nb, 0, none⟩)] [cel nb 128 (netCells dcs B), lanes 25 103 R B C X]
    (fun v l => v = .int .i64 (sumTo dcs X 25 : Nat) ∧ l = [cel nb 128 (netCells dcs B), lanes 25 103 R B C X]) := by
  refine Trip.of Try.func57 (by kernel_rfl) fun E w L hs => ?_
  simp only [List.cons_append, List.nil_append] at hs
  refine To.run 14 ?_
  refine To.run 1 ?_
  refine To.at (fn := Try.f57) (n := 4) (l := [(0, Value.pointer (some { block := nb, off := 0 })), (3, Value.int IntKind.i64 0), (6, Value.int IntKind.i64 0)]) (by kernel_rfl) fun j => ?_
  exact NAllI_out E L _ nb R dcs B C X h4 hX (fun w hs => ⟨_, _, rfl, ⟨rfl, rfl⟩, hs⟩) 5 0 _ _ rfl hs

end Go.Proofs.Ythojpcfaaiefhaa
