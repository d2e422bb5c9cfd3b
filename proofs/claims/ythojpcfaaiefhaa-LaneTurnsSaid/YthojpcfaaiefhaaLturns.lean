import Derived.Test.YthojpcfaaiefhaaProg
import Derived.Test.YthojpcfaaiefhaaSxLaw
import Derived.Test.YthojpcfaaiefhaaLkinds
set_option linter.unusedSimpArgs false
set_option linter.unusedVariables false
namespace Go.Proofs.Ythojpcfaaiefhaa
open Go Go.Sx
set_option linter.unusedSimpArgs false
set_option maxHeartbeats 0

theorem LT_end (W : World) (al : Option Addr) (len cap : Nat) (bA cA : Nat) (r : Int) (hr1 : 1 ≤ r) (hr2 : r ≤ 16) (xs : List Int) (hx : Told (Value.int .u16) W al xs) (hq : xs.length ≤ len) (hr : (xs.length : Int) ≤ r) (j : Nat → Value) (w : World)
    (hs : Sat W w [cel bA 115 [.chan (some cA)], chn cA r.toNat (xs.map (Value.int .u16)), old W]) :
    To Try.prog 6 (Cfg.here Try.f6 20 j [(1, .slice al len cap), (5, .bool true), (6, .int .i64 r), (7, .pointer (some ⟨bA, 0, none⟩)), (9, .int .i64 xs.length), (11, .int .i64 xs.length)]) w (LawEnd W) := by
  have hrr : ((r.toNat : Nat) : Int) = r := by omega
  cases xs with
  | nil =>
    simp only [List.length_nil, List.map_nil] at hs ⊢
    refine To.run 19 ?_
    refine To.one (One.call 3 [0, 1] [2] (g := 35) (args := [Value.pointer (some { block := bA, off := 0 }), Value.int IntKind.u16 7]) (by kernel_rfl) hs (PutH_room (bA) (cA) (r.toNat) ([]) (Value.int IntKind.u16 7) (by (simp; omega))) (by decide) rfl ?_)
    rintro _ _ w1 ⟨rfl, rfl⟩ hs1
    simp only [pickAll, List.filterMap_cons, List.filterMap_nil, List.getElem?_cons_zero, List.getElem?_cons_succ, List.cons_append, List.nil_append, List.drop_succ_cons, List.drop_zero] at hs1
    clear hs
    refine To.run 5 ?_
    refine To.one (One.call 3 [0, 1] [2] (g := 36) (args := [Value.pointer (some { block := bA, off := 0 })]) (by kernel_rfl) hs1 (TakeH_some (bA) (cA) (r.toNat) (Value.int IntKind.u16 7) ([])) (by decide) rfl ?_)
    rintro _ _ w2 ⟨rfl, rfl⟩ hs2
    simp only [pickAll, List.filterMap_cons, List.filterMap_nil, List.getElem?_cons_zero, List.getElem?_cons_succ, List.cons_append, List.nil_append, List.drop_succ_cons, List.drop_zero] at hs2
    clear hs1
    refine To.run 16 ?_
    refine To.isTrue 104 (t := true == !0 == r) (by kernel_rfl) (by (simp; omega)) ?_
    refine To.run 15 ?_
    refine To.one (One.call 3 [0, 1] [2] (g := 38) (args := [Value.pointer (some { block := bA, off := 0 })]) (by kernel_rfl) hs2 (RoomH_ok (bA) (cA) (r.toNat) ([])) (by decide) rfl ?_)
    rintro _ _ w3 ⟨rfl, rfl⟩ hs1
    simp only [pickAll, List.filterMap_cons, List.filterMap_nil, List.getElem?_cons_zero, List.getElem?_cons_succ, List.cons_append, List.nil_append, List.drop_succ_cons, List.drop_zero] at hs1
    clear hs2
    refine To.run 5 ?_
    refine To.retv Try.func6 (by kernel_rfl) (v := Value.bool ((↑r.toNat : Int) == r)) (by kernel_rfl) ?_
    rw [show ((r.toNat : Int) == r) = true by rw [hrr]; simp]
    exact hs1.lawEnd 2 rfl
  | cons x xs =>
    obtain ⟨b, off, rfl, hc⟩ := hx 0 x rfl
    rw [Nat.add_zero] at hc
    simp only [List.length_cons, List.map_cons] at hs hq hr ⊢
    by_cases hf : (xs.length : Int) + 1 = r
    · have hl : r.toNat ≤ (Value.int .u16 x :: xs.map (Value.int .u16)).length := by simp; omega
      refine To.run 7 ?_
      refine To.isFalse 57 (t := decide ((↑(xs.length + 1) : Int) < (↑(xs.length + 1) : Int))) (by kernel_rfl) (by simp) ?_
      refine To.run 12 ?_
      refine To.one (One.call 3 [0, 1] [2] (g := 35) (args := [Value.pointer (some { block := bA, off := 0 }), Value.int IntKind.u16 7]) (by kernel_rfl) hs (PutH_full (bA) (cA) (r.toNat) (Value.int IntKind.u16 x :: List.map (Value.int IntKind.u16) xs) (Value.int IntKind.u16 7) (by assumption)) (by decide) rfl ?_)
      rintro _ _ w1 ⟨rfl, rfl⟩ hs1
      simp only [pickAll, List.filterMap_cons, List.filterMap_nil, List.getElem?_cons_zero, List.getElem?_cons_succ, List.cons_append, List.nil_append, List.drop_succ_cons, List.drop_zero] at hs1
      clear hs
      refine To.run 5 ?_
      refine To.one (One.call 3 [0, 1] [2] (g := 36) (args := [Value.pointer (some { block := bA, off := 0 })]) (by kernel_rfl) hs1 (TakeH_some (bA) (cA) (r.toNat) (Value.int IntKind.u16 x) (List.map (Value.int IntKind.u16) xs)) (by decide) rfl ?_)
      rintro _ _ w2 ⟨rfl, rfl⟩ hs2
      simp only [pickAll, List.filterMap_cons, List.filterMap_nil, List.getElem?_cons_zero, List.getElem?_cons_succ, List.cons_append, List.nil_append, List.drop_succ_cons, List.drop_zero] at hs2
      clear hs1
      refine To.run 16 ?_
      refine To.isTrue 104 (t := false == !(↑(xs.length + 1) : Int) == r) (by kernel_rfl) (by (simp; omega)) ?_
      refine To.run 7 ?_
      refine To.one (One.ixa (0) (off + (0)) (t := 67) (b := b) (off := off) (len := len) (cap := cap) (e := 71) (sz := 1) (kd := IntKind.i64) (i := 0) (by kernel_rfl) (by kernel_rfl) (rfl) (by first | omega | (simp; done) | (simp; omega)) (by omega) ?_)
      refine To.one (One.loadc (t := 71) (a := ⟨b, off, none⟩) (v := Value.int IntKind.u16 x) (Sat.oldCell hs2 2 rfl hc) (by kernel_rfl) (by kernel_rfl) ?_)
      refine To.run 5 ?_
      refine To.isTrue 118 (t := x == x) (by kernel_rfl) (by simp) ?_
      refine To.run 1 ?_
      refine To.one (One.call 3 [0, 1] [2] (g := 38) (args := [Value.pointer (some { block := bA, off := 0 })]) (by kernel_rfl) hs2 (RoomH_ok (bA) (cA) (r.toNat) (List.map (Value.int IntKind.u16) xs)) (by decide) rfl ?_)
      rintro _ _ w3 ⟨rfl, rfl⟩ hs1
      simp only [pickAll, List.filterMap_cons, List.filterMap_nil, List.getElem?_cons_zero, List.getElem?_cons_succ, List.cons_append, List.nil_append, List.drop_succ_cons, List.drop_zero] at hs1
      clear hs2
      refine To.run 5 ?_
      refine To.retv Try.func6 (by kernel_rfl) (v := Value.bool ((↑r.toNat : Int) == r)) (by kernel_rfl) ?_
      rw [show ((r.toNat : Int) == r) = true by rw [hrr]; simp]
      exact hs1.lawEnd 2 rfl
    · have hl : (Value.int .u16 x :: xs.map (Value.int .u16)).length < r.toNat := by simp; omega
      refine To.run 7 ?_
      refine To.isFalse 57 (t := decide ((↑(xs.length + 1) : Int) < (↑(xs.length + 1) : Int))) (by kernel_rfl) (by simp) ?_
      refine To.run 12 ?_
      refine To.one (One.call 3 [0, 1] [2] (g := 35) (args := [Value.pointer (some { block := bA, off := 0 }), Value.int IntKind.u16 7]) (by kernel_rfl) hs (PutH_room (bA) (cA) (r.toNat) (Value.int IntKind.u16 x :: List.map (Value.int IntKind.u16) xs) (Value.int IntKind.u16 7) (by assumption)) (by decide) rfl ?_)
      rintro _ _ w1 ⟨rfl, rfl⟩ hs1
      simp only [pickAll, List.filterMap_cons, List.filterMap_nil, List.getElem?_cons_zero, List.getElem?_cons_succ, List.cons_append, List.nil_append, List.drop_succ_cons, List.drop_zero] at hs1
      clear hs
      refine To.run 5 ?_
      refine To.one (One.call 3 [0, 1] [2] (g := 36) (args := [Value.pointer (some { block := bA, off := 0 })]) (by kernel_rfl) hs1 (TakeH_some (bA) (cA) (r.toNat) (Value.int IntKind.u16 x) (List.map (Value.int IntKind.u16) xs ++ [Value.int IntKind.u16 7])) (by decide) rfl ?_)
      rintro _ _ w2 ⟨rfl, rfl⟩ hs2
      simp only [pickAll, List.filterMap_cons, List.filterMap_nil, List.getElem?_cons_zero, List.getElem?_cons_succ, List.cons_append, List.nil_append, List.drop_succ_cons, List.drop_zero] at hs2
      clear hs1
      refine To.run 16 ?_
      refine To.isTrue 104 (t := true == !(↑(xs.length + 1) : Int) == r) (by kernel_rfl) (by (simp; omega)) ?_
      refine To.run 7 ?_
      refine To.one (One.ixa (0) (off + (0)) (t := 67) (b := b) (off := off) (len := len) (cap := cap) (e := 71) (sz := 1) (kd := IntKind.i64) (i := 0) (by kernel_rfl) (by kernel_rfl) (rfl) (by first | omega | (simp; done) | (simp; omega)) (by omega) ?_)
      refine To.one (One.loadc (t := 71) (a := ⟨b, off, none⟩) (v := Value.int IntKind.u16 x) (Sat.oldCell hs2 2 rfl hc) (by kernel_rfl) (by kernel_rfl) ?_)
      refine To.run 5 ?_
      refine To.isTrue 118 (t := x == x) (by kernel_rfl) (by simp) ?_
      refine To.run 1 ?_
      refine To.one (One.call 3 [0, 1] [2] (g := 38) (args := [Value.pointer (some { block := bA, off := 0 })]) (by kernel_rfl) hs2 (RoomH_ok (bA) (cA) (r.toNat) (List.map (Value.int IntKind.u16) xs ++ [Value.int IntKind.u16 7])) (by decide) rfl ?_)
      rintro _ _ w3 ⟨rfl, rfl⟩ hs1
      simp only [pickAll, List.filterMap_cons, List.filterMap_nil, List.getElem?_cons_zero, List.getElem?_cons_succ, List.cons_append, List.nil_append, List.drop_succ_cons, List.drop_zero] at hs1
      clear hs2
      refine To.run 5 ?_
      refine To.retv Try.func6 (by kernel_rfl) (v := Value.bool ((↑r.toNat : Int) == r)) (by kernel_rfl) ?_
      rw [show ((r.toNat : Int) == r) = true by rw [hrr]; simp]
      exact hs1.lawEnd 2 rfl

theorem LT_second (W : World) (al : Option Addr) (len cap : Nat) (bA cA : Nat) (r : Int) (hr1 : 1 ≤ r) (hr2 : r ≤ 16) (xs : List Int) (hx : Told (Value.int .u16) W al xs) (hq : xs.length ≤ len) (hr : (xs.length : Int) ≤ r) :
    ∀ (m k : Nat) (j : Nat → Value) (w : World), k + m = xs.length →
    Sat W w [cel bA 115 [.chan (some cA)], chn cA r.toNat ((xs.drop k ++ xs.take k).map (Value.int .u16)), old W] →
    To Try.prog 6 (Cfg.here Try.f6 20 j [(1, .slice al len cap), (5, .bool true), (6, .int .i64 r), (7, .pointer (some ⟨bA, 0, none⟩)), (9, .int .i64 xs.length), (11, .int .i64 k)]) w (LawEnd W) := by
  have hrr : ((r.toNat : Nat) : Int) = r := by omega
  intro m
  induction m with
  | zero =>
    intro k j w hk hs
    obtain rfl : k = xs.length := by omega
    rw [List.drop_length, List.take_length, List.nil_append] at hs
    exact LT_end W al len cap bA cA r hr1 hr2 xs hx hq hr j w hs
  | succ m ih =>
    intro k j w hk hs
    have h1 : k < xs.length := by omega
    obtain ⟨b, off, rfl, hc⟩ := hx k _ (List.getElem?_eq_getElem h1)
    have e1 : (xs.drop k ++ xs.take k).map (Value.int .u16) = .int .u16 xs[k] :: (xs.drop (k + 1) ++ xs.take k).map (Value.int .u16) := by
      rw [List.drop_eq_getElem_cons h1]; rfl
    rw [e1] at hs
    clear e1
    have e2 : (xs.drop (k + 1) ++ xs.take (k + 1)).map (Value.int .u16) = (xs.drop (k + 1) ++ xs.take k).map (Value.int .u16) ++ [.int .u16 xs[k]] := by
      rw [List.take_succ_eq_append_getElem h1, ← List.append_assoc, List.map_append]; rfl
    have hl : ((xs.drop (k + 1) ++ xs.take k).map (Value.int .u16)).length < r.toNat := by simp; omega
    have hl2 : (((xs.drop (k + 1) ++ xs.take k).map (Value.int .u16)).length : Int) + 1 = xs.length := by simp; omega
    have hkl : k < len := by omega
    obtain ⟨ys, hys⟩ : ∃ ys, (xs.drop (k + 1) ++ xs.take k).map (Value.int .u16) = ys := ⟨_, rfl⟩
    rw [hys] at hs hl hl2 e2
    clear hys
    refine To.run 7 ?_
    refine To.isTrue 57 (t := decide ((↑k : Int) < (↑xs.length : Int))) (by kernel_rfl) (by (simp; omega)) ?_
    refine To.run 7 ?_
    refine To.one (One.call 3 [0, 1] [2] (g := 36) (args := [Value.pointer (some { block := bA, off := 0 })]) (by kernel_rfl) hs (TakeH_some (bA) (cA) (r.toNat) (Value.int IntKind.u16 xs[k]) (ys)) (by decide) rfl ?_)
    rintro _ _ w1 ⟨rfl, rfl⟩ hs1
    simp only [pickAll, List.filterMap_cons, List.filterMap_nil, List.getElem?_cons_zero, List.getElem?_cons_succ, List.cons_append, List.nil_append, List.drop_succ_cons, List.drop_zero] at hs1
    clear hs
    refine To.run 14 ?_
    refine To.one (One.ixa (k) (off + (k)) (t := 67) (b := b) (off := off) (len := len) (cap := cap) (e := 71) (sz := 1) (kd := IntKind.i64) (i := (↑k : Int)) (by kernel_rfl) (by kernel_rfl) (rfl) (by first | omega | (simp; done) | (simp; omega)) (by omega) ?_)
    refine To.one (One.loadc (t := 71) (a := ⟨b, off + k, none⟩) (v := Value.int IntKind.u16 xs[k]) (Sat.oldCell hs1 2 rfl hc) (by kernel_rfl) (by kernel_rfl) ?_)
    refine To.run 3 ?_
    refine To.isFalse 75 (t := xs[k] != xs[k]) (by kernel_rfl) (by simp) ?_
    refine To.run 2 ?_
    refine To.one (One.call 3 [0, 1] [2] (g := 35) (args := [Value.pointer (some { block := bA, off := 0 }), Value.int IntKind.u16 xs[k]]) (by kernel_rfl) hs1 (PutH_room (bA) (cA) (r.toNat) (ys) (Value.int IntKind.u16 xs[k]) (by assumption)) (by decide) rfl ?_)
    rintro _ _ w2 ⟨rfl, rfl⟩ hs2
    simp only [pickAll, List.filterMap_cons, List.filterMap_nil, List.getElem?_cons_zero, List.getElem?_cons_succ, List.cons_append, List.nil_append, List.drop_succ_cons, List.drop_zero] at hs2
    clear hs1
    refine To.run 4 ?_
    refine To.one (One.call 3 [0, 1] [2] (g := 37) (args := [Value.pointer (some { block := bA, off := 0 })]) (by kernel_rfl) hs2 (LenH_ok (bA) (cA) (r.toNat) (ys ++ [Value.int IntKind.u16 xs[k]])) (by decide) rfl ?_)
    rintro _ _ w3 ⟨rfl, rfl⟩ hs1
    simp only [pickAll, List.filterMap_cons, List.filterMap_nil, List.getElem?_cons_zero, List.getElem?_cons_succ, List.cons_append, List.nil_append, List.drop_succ_cons, List.drop_zero] at hs1
    clear hs2
    refine To.run 4 ?_
    refine To.isFalse 86 (t := (↑(ys ++ [Value.int IntKind.u16 xs[k]]).length : Int) != (↑xs.length : Int)) (by kernel_rfl) (by (simp; omega)) ?_
    refine To.run 6 ?_
    refine To.known 59 (v := .int .i64 (IntKind.i64.wrap ((↑k : Int) + 1))) (.int .i64 ((↑k : Int) + 1)) (by kernel_rfl) (by rw [wrap_i64 (by omega) (by omega)]) ?_
    refine To.run 2 ?_
    refine To.run 1 ?_
    refine To.at (fn := Try.f6) (n := 20) (l := [(1, Value.slice (some { block := b, off := off }) len cap), (5, Value.bool true), (6, Value.int IntKind.i64 r), (7, Value.pointer (some { block := bA, off := 0 })), (9, Value.int IntKind.i64 (↑xs.length : Int)), (11, Value.int IntKind.i64 ((↑k : Int) + 1))]) (by kernel_rfl) fun j => ?_
    exact ih (k + 1) _ _ (by omega) (by rw [e2]; exact hs1)

theorem LT_first (W : World) (al : Option Addr) (len cap : Nat) (bA cA : Nat) (r : Int) (hr1 : 1 ≤ r) (hr2 : r ≤ 16) (xs : List Int) (hx : Told (Value.int .u16) W al xs) (hxl : xs.length = min len r.toNat) :
    ∀ (m k : Nat) (j : Nat → Value) (w : World), k + m = xs.length →
    Sat W w [cel bA 115 [.chan (some cA)], chn cA r.toNat ((xs.take k).map (Value.int .u16)), old W] →
    To Try.prog 6 (Cfg.here Try.f6 13 j [(1, .slice al len cap), (5, .bool true), (6, .int .i64 r), (7, .pointer (some ⟨bA, 0, none⟩)), (9, .int .i64 k), (10, .int .i64 k)]) w (LawEnd W) := by
  have hrr : ((r.toNat : Nat) : Int) = r := by omega
  intro m
  induction m with
  | zero =>
    intro k j w hk hs
    obtain rfl : k = xs.length := by omega
    rw [List.take_length] at hs
    by_cases hf : xs.length < len
    · have q1 : ¬ (xs.length : Int) < r := by omega
      have q2 : xs.length ≤ len := by omega
      have q3 : (xs.length : Int) ≤ r := by omega
      clear hxl
      refine To.run 8 ?_
      refine To.isTrue 40 (t := decide ((↑xs.length : Int) < (↑len : Int))) (by kernel_rfl) (by (simp; omega)) ?_
      refine To.run 5 ?_
      refine To.isFalse 44 (t := decide ((↑xs.length : Int) < r)) (by kernel_rfl) (by (simp; omega)) ?_
      refine To.run 8 ?_
      refine To.run 1 ?_
      refine To.at (fn := Try.f6) (n := 20) (l := [(1, Value.slice al len cap), (5, Value.bool true), (6, Value.int IntKind.i64 r), (7, Value.pointer (some { block := bA, off := 0 })), (9, Value.int IntKind.i64 (↑xs.length : Int)), (11, Value.int IntKind.i64 0)]) (by kernel_rfl) fun j => ?_
      exact LT_second W al len cap bA cA r hr1 hr2 xs hx q2 q3 xs.length 0 _ _ (by omega) (by simpa using hs)
    · have q2 : xs.length ≤ len := by omega
      have q3 : (xs.length : Int) ≤ r := by omega
      clear hxl
      refine To.run 8 ?_
      refine To.isFalse 40 (t := decide ((↑xs.length : Int) < (↑len : Int))) (by kernel_rfl) (by (simp; omega)) ?_
      refine To.run 13 ?_
      refine To.run 1 ?_
      refine To.at (fn := Try.f6) (n := 20) (l := [(1, Value.slice al len cap), (5, Value.bool true), (6, Value.int IntKind.i64 r), (7, Value.pointer (some { block := bA, off := 0 })), (9, Value.int IntKind.i64 (↑xs.length : Int)), (11, Value.int IntKind.i64 0)]) (by kernel_rfl) fun j => ?_
      exact LT_second W al len cap bA cA r hr1 hr2 xs hx q2 q3 xs.length 0 _ _ (by omega) (by simpa using hs)
  | succ m ih =>
    intro k j w hk hs
    have h1 : k < xs.length := by omega
    obtain ⟨b, off, rfl, hc⟩ := hx k _ (List.getElem?_eq_getElem h1)
    have e1 : (xs.take (k + 1)).map (Value.int .u16) = (xs.take k).map (Value.int .u16) ++ [.int .u16 xs[k]] := by rw [List.take_succ_eq_append_getElem h1, List.map_append]; rfl
    have hl : ((xs.take k).map (Value.int .u16)).length < r.toNat := by simp; omega
    have q0 : k < len := by omega
    have q1 : (k : Int) < r := by omega
    clear hxl
    refine To.run 8 ?_
    refine To.isTrue 40 (t := decide ((↑k : Int) < (↑len : Int))) (by kernel_rfl) (by (simp; omega)) ?_
    refine To.run 5 ?_
    refine To.isTrue 44 (t := decide ((↑k : Int) < r)) (by kernel_rfl) (by (simp; omega)) ?_
    refine To.run 9 ?_
    refine To.one (One.ixa (k) (off + (k)) (t := 67) (b := b) (off := off) (len := len) (cap := cap) (e := 71) (sz := 1) (kd := IntKind.i64) (i := (↑k : Int)) (by kernel_rfl) (by kernel_rfl) (rfl) (by first | omega | (simp; done) | (simp; omega)) (by omega) ?_)
    refine To.one (One.loadc (t := 71) (a := ⟨b, off + k, none⟩) (v := Value.int IntKind.u16 xs[k]) (Sat.oldCell hs 2 rfl hc) (by kernel_rfl) (by kernel_rfl) ?_)
    refine To.one (One.call 3 [0, 1] [2] (g := 35) (args := [Value.pointer (some { block := bA, off := 0 }), Value.int IntKind.u16 xs[k]]) (by kernel_rfl) hs (PutH_room (bA) (cA) (r.toNat) (List.map (Value.int IntKind.u16) (List.take k xs)) (Value.int IntKind.u16 xs[k]) (by assumption)) (by decide) rfl ?_)
    rintro _ _ w1 ⟨rfl, rfl⟩ hs1
    simp only [pickAll, List.filterMap_cons, List.filterMap_nil, List.getElem?_cons_zero, List.getElem?_cons_succ, List.cons_append, List.nil_append, List.drop_succ_cons, List.drop_zero] at hs1
    clear hs
    refine To.run 5 ?_
    refine To.known 54 (v := .int .i64 (IntKind.i64.wrap ((↑k : Int) + 1))) (.int .i64 ((↑k : Int) + 1)) (by kernel_rfl) (by rw [wrap_i64 (by omega) (by omega)]) ?_
    refine To.run 8 ?_
    refine To.run 1 ?_
    refine To.known 10 (v := .int .i64 (IntKind.i64.wrap ((↑k : Int) + 1))) (.int .i64 ((↑k : Int) + 1)) (by kernel_rfl) (by rw [wrap_i64 (by omega) (by omega)]) ?_
    refine To.at (fn := Try.f6) (n := 13) (l := [(1, Value.slice (some { block := b, off := off }) len cap), (5, Value.bool true), (6, Value.int IntKind.i64 r), (7, Value.pointer (some { block := bA, off := 0 })), (9, Value.int IntKind.i64 ((↑k : Int) + 1)), (10, Value.int IntKind.i64 ((↑k : Int) + 1))]) (by kernel_rfl) fun j => ?_
    exact ih (k + 1) _ _ (by omega) (by rw [e1]; exact hs1)

theorem LT_law (W : World) (a : Int) (ha0 : 0 ≤ a) (ha1 : a ≤ 255) (al : Option Addr) (len cap : Nat) (hxs : ∀ m, m ≤ len → ∃ xs : List Int, xs.length = m ∧ Told (Value.int .u16) W al xs) :
    Calls Try.prog 6 #[.int .u8 a, .slice al len cap] W (LawEnd W) := by
  refine Sx.start (args := [_, _]) Try.func6 (by kernel_rfl) ?_
  have hs := Sat.start W
  obtain ⟨r, hr, h1, h2⟩ := near16 a ha0 ha1
  obtain ⟨xs, hxl, hx⟩ := hxs (min len r.toNat) (by omega)
  refine To.run 6 ?_
  refine To.one (One.call 1 [] [0] (g := 12) (args := []) (by kernel_rfl) hs (examples5_ok) (by decide) rfl ?_)
  rintro _ _ w1 ⟨rfl, rfl⟩ hs1
  simp only [pickAll, List.filterMap_cons, List.filterMap_nil, List.getElem?_cons_zero, List.getElem?_cons_succ, List.cons_append, List.nil_append, List.drop_succ_cons, List.drop_zero] at hs1
  clear hs
  refine To.run 15 ?_
  refine To.run 1 ?_
  refine To.run 5 ?_
  refine To.known 6 _ (by kernel_rfl) hr ?_
  refine To.known 26 _ (by kernel_rfl) hr ?_
  refine To.one (One.call 1 [] [0] (g := 34) (args := [Value.int IntKind.i64 r]) (by kernel_rfl) hs1 (NewH_ok (r) (by assumption) (by assumption)) (by decide) rfl ?_)
  rintro _ _ w2 ⟨b, c, rfl, rfl⟩ hs2
  simp only [pickAll, List.filterMap_cons, List.filterMap_nil, List.getElem?_cons_zero, List.getElem?_cons_succ, List.cons_append, List.nil_append, List.drop_succ_cons, List.drop_zero] at hs2
  clear hs1
  refine To.run 28 ?_
  refine To.run 1 ?_
  refine To.at (fn := Try.f6) (n := 13) (l := [(1, Value.slice al len cap), (5, Value.bool true), (6, Value.int IntKind.i64 r), (7, Value.pointer (some { block := b, off := 0 })), (9, Value.int IntKind.i64 0), (10, Value.int IntKind.i64 0)]) (by kernel_rfl) fun j => ?_
  exact LT_first W al len cap b c r h1 h2 xs hx hxl xs.length 0 _ _ (by omega) (by simp only [List.take_zero, List.map_nil]; exact hs2)
end Go.Proofs.Ythojpcfaaiefhaa
