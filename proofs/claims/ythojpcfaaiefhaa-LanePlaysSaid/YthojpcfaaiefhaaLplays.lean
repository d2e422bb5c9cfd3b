import Derived.Test.YthojpcfaaiefhaaProg
import Derived.Test.YthojpcfaaiefhaaSxLaw
import Derived.Test.YthojpcfaaiefhaaLref
import Derived.Test.YthojpcfaaiefhaaLex
set_option linter.unusedSimpArgs false
set_option linter.unusedVariables false
namespace Go.Proofs.Ythojpcfaaiefhaa
open Go Go.Sx
set_option linter.unusedSimpArgs false
set_option maxHeartbeats 0

/-- What is known of the deeds. -/
def Deeds (W : World) (al : Option Addr) (len : Nat) : Prop :=
  len = 0 ∨ ∃ b off, al = some ⟨b, off, none⟩ ∧ ∀ i, i < len → ∃ kd x : Int, 0 ≤ kd ∧ kd ≤ 255 ∧ W.cell? ⟨b, off + i * 2, none⟩ = some (.int .u8 kd) ∧ W.cell? ⟨b, off + i * 2 + 1, none⟩ = some (.int .i64 x)


/-- The slots that the rounds hand on. -/
def lpSlots (r : Int) (al : Option Addr) (len cap bA bB : Nat) (k : Nat) : List (Nat × Value) :=
  [(0, .int .i64 r), (2, .slice al len cap), (7, .bool true), (8, .pointer (some ⟨bA, 0, none⟩)), (10, .pointer (some ⟨bB, 0, none⟩)), (11, .int .i64 k)]

def lpKnow (W : World) (r : Int) (bA cA bB : Nat) (zs : List Int) (a : Option Addr) (p : Nat) : List Res :=
  [cel bA 103 [.chan (some cA)], chn cA r.toNat (zs.map (Value.int .i64)), cel bB 40 [.slice a zs.length p, .int .i64 r], seg a p 3 (zs.map (Value.int .i64)), old W]

theorem LP_inner (W : World) (al : Option Addr) (len cap : Nat) (bA cA bB : Nat) (r : Int) (hr1 : 1 ≤ r) (hr2 : r ≤ 16) (k : Nat) (hk : k < 60)
    (ih : ∀ (zs : List Int) (a : Option Addr) (p : Nat) (j : Nat → Value) (w : World), zs.length ≤ 16 → Sat W w (lpKnow W r bA cA bB zs a p) →
      To Try.prog 3 (Cfg.here Try.f3 17 j [(0, .int .i64 r), (2, .slice al len cap), (7, .bool true), (8, .pointer (some ⟨bA, 0, none⟩)), (10, .pointer (some ⟨bB, 0, none⟩)), (11, .int .i64 (k + 1))]) w (LawEnd W))
    (zs : List Int) (hz : zs.length ≤ 16) (s : Option Addr) (ps : Nat) (a : Option Addr) (p : Nat) : ∀ (m q : Nat) (j : Nat → Value) (w : World), q + m = zs.length →
    Sat W w [cel bB 40 [.slice none 0 0, .int .i64 r], seg none 0 3 [], seg a p 3 (zs.map (Value.int .i64)), cel bA 103 [.chan (some cA)], chn cA r.toNat [], seg s ps 3 (zs.map (Value.int .i64)), old W] →
    To Try.prog 3 (Cfg.here Try.f3 28 j [(0, .int .i64 r), (2, .slice al len cap), (7, .bool true), (8, .pointer (some ⟨bA, 0, none⟩)), (10, .pointer (some ⟨bB, 0, none⟩)), (11, .int .i64 k), (12, .bool true), (13, .slice s zs.length ps), (14, .slice a zs.length p), (15, .int .i64 q)]) w (LawEnd W) := by
  intro m
  induction m with
  | zero =>
    intro q j w hq hs
    obtain rfl : q = zs.length := by omega
    have hrr : ((r.toNat : Nat) : Int) = r := by omega
    refine To.run 8 ?_
    refine To.isFalse 99 (t := decide ((↑zs.length : Int) < (↑zs.length : Int))) (by kernel_rfl) (by simp) ?_
    refine To.run 7 ?_
    refine To.draw [cel bB 40 [Value.slice none 0 0, Value.int IntKind.i64 r], seg none 0 3 [], seg a p 3 (List.map (Value.int IntKind.i64) zs), cel bA 103 [Value.chan (some cA)], seg s ps 3 (List.map (Value.int IntKind.i64) zs), old W] 18 hs (by kernel_rfl) (by kernel_rfl) (by kernel_rfl) fun w1 hs1 => ?_
    clear hs
    have hb1 := Sat.holds hs1 [0, 1, 2, 3, 5, 6] rfl
    refine Reg.pures [0, 1, 2, 3, 5, 6, 7] (fuel' := 11) hb1 rfl (by kernel_rfl) ?_
    refine Reg.load 8 0 (t := 33) (off := 0) (v := Value.slice none 0 0) hb1 rfl (by kernel_rfl) (by kernel_rfl) (by kernel_rfl) ?_
    refine Reg.pures [9] (fuel' := 9) hb1 rfl (by kernel_rfl) ?_
    refine Reg.step 4 (by kernel_rfl) (One.call 7 [3, 4] [0, 1, 2, 5, 6] (g := 21) (args := [Value.pointer (some { block := bA, off := 0 })]) (by kernel_rfl) hs1 (LenI_ok (bA) (cA) (r.toNat) ([])) (by decide) rfl ?_)
    rintro _ _ w2 ⟨rfl, rfl⟩ hs2
    simp only [pickAll, List.filterMap_cons, List.filterMap_nil, List.getElem?_cons_zero, List.getElem?_cons_succ, List.cons_append, List.nil_append, List.drop_succ_cons, List.drop_zero] at hs2
    clear hs1
    have hb2 := Sat.holds hs2 [2, 3, 4, 0, 5, 6] (B := [cel bB 40 [Value.slice none 0 0, Value.int IntKind.i64 r], seg none 0 3 [], seg a p 3 (List.map (Value.int IntKind.i64) zs), cel bA 103 [Value.chan (some cA)], seg s ps 3 (List.map (Value.int IntKind.i64) zs), old W]) rfl
    clear hb1
    refine ⟨hb2, ?_⟩
    refine Reg.pures [10, 11, 12, 13, 15] (fuel' := 3) hb2 rfl (by kernel_rfl) ?_
    refine Reg.step 14 (by kernel_rfl) (One.call 7 [0, 1] [2, 3, 4, 5, 6] (g := 22) (args := [Value.pointer (some { block := bA, off := 0 })]) (by kernel_rfl) hs2 (RoomI_ok (bA) (cA) (r.toNat) ([])) (by decide) rfl ?_)
    rintro _ _ w3 ⟨rfl, rfl⟩ hs1
    simp only [pickAll, List.filterMap_cons, List.filterMap_nil, List.getElem?_cons_zero, List.getElem?_cons_succ, List.cons_append, List.nil_append, List.drop_succ_cons, List.drop_zero] at hs1
    clear hs2
    have hb1 := Sat.holds hs1 [2, 3, 4, 0, 5, 6] (B := [cel bB 40 [Value.slice none 0 0, Value.int IntKind.i64 r], seg none 0 3 [], seg a p 3 (List.map (Value.int IntKind.i64) zs), cel bA 103 [Value.chan (some cA)], seg s ps 3 (List.map (Value.int IntKind.i64) zs), old W]) rfl
    clear hb2
    refine ⟨hb1, ?_⟩
    refine Reg.pures [16, 17] (fuel' := 0) hb1 rfl (by kernel_rfl) ?_
    refine Reg.done (by kernel_rfl) ?_
    clear hb1
    refine To.isFalse 156 (t := (↑r.toNat : Int) != r) (by kernel_rfl) (by (simp; omega)) ?_
    refine To.run 6 ?_
    refine To.known 62 (v := .int .i64 (IntKind.i64.wrap ((↑k : Int) + 1))) (.int .i64 ((↑k : Int) + 1)) (by kernel_rfl) (by rw [wrap_i64 (by omega) (by omega)]) ?_
    refine To.run 2 ?_
    refine To.run 1 ?_
    refine To.at (fn := Try.f3) (n := 17) (l := [(0, Value.int IntKind.i64 r), (2, Value.slice al len cap), (7, Value.bool true), (8, Value.pointer (some { block := bA, off := 0 })), (10, Value.pointer (some { block := bB, off := 0 })), (11, Value.int IntKind.i64 ((↑k : Int) + 1))]) (by kernel_rfl) fun j => ?_
    exact ih [] none 0 _ _ (by simp) ((hs1.get [0, 1, 2, 3, 6] (by decide) rfl))
  | succ m ihm =>
    intro q j w hq hs
    have hzq : (zs.map (Value.int .i64))[q]? = some (.int .i64 (zs[q]'(by omega))) := by simp [show q < zs.length by omega]
    obtain ⟨gs, os', rfl⟩ := hs.segAddr 5 rfl (by simp; omega)
    obtain ⟨ga, oa, rfl⟩ := hs.segAddr 2 rfl (by simp; omega)
    refine To.run 8 ?_
    refine To.isTrue 99 (t := decide ((↑q : Int) < (↑zs.length : Int))) (by kernel_rfl) (by (simp; omega)) ?_
    refine To.run 7 ?_
    refine To.draw [cel bB 40 [Value.slice none 0 0, Value.int IntKind.i64 r], seg none 0 3 [], seg (some { block := ga, off := oa }) p 3 (List.map (Value.int IntKind.i64) zs), cel bA 103 [Value.chan (some cA)], seg (some { block := gs, off := os' }) ps 3 (List.map (Value.int IntKind.i64) zs), old W] 10 hs (by kernel_rfl) (by kernel_rfl) (by kernel_rfl) fun w1 hs1 => ?_
    clear hs
    have hb1 := Sat.holds hs1 [0, 1, 2, 3, 5, 6] rfl
    refine Reg.pures [0, 1, 4, 5] (fuel' := 6) hb1 rfl (by kernel_rfl) ?_
    refine Reg.val 2 hb1 (by kernel_rfl) (by kernel_rfl) (fun w' hw' => Val.ixa (q) (os' + q) (t := 33) (b := gs) (off := os') (len := zs.length) (cap := ps) (e := 3) (sz := 1) (kd := IntKind.i64) (i := (↑q : Int)) (by kernel_rfl) (by kernel_rfl) (rfl) (by first | omega | (simp; done) | (simp; omega)) (by omega)) ?_
    refine Reg.loadSeg 3 4 (q) (t := 3) (off := os' + q) (v := Value.int IntKind.i64 zs[q]) hb1 rfl (by kernel_rfl) (by kernel_rfl) (by first | rfl | omega) (hzq) (by kernel_rfl) ?_
    refine Reg.step 6 (by kernel_rfl) (One.ixa (q) (oa + q) (t := 33) (b := ga) (off := oa) (len := zs.length) (cap := p) (e := 3) (sz := 1) (kd := IntKind.i64) (i := (↑q : Int)) (by kernel_rfl) (by kernel_rfl) (rfl) (by first | omega | (simp; done) | (simp; omega)) (by omega) ?_)
    have hb2 := Sat.holds hs1 [0, 1, 2, 3, 5, 6] (B := [cel bB 40 [Value.slice none 0 0, Value.int IntKind.i64 r], seg none 0 3 [], seg (some { block := ga, off := oa }) p 3 (List.map (Value.int IntKind.i64) zs), cel bA 103 [Value.chan (some cA)], seg (some { block := gs, off := os' }) ps 3 (List.map (Value.int IntKind.i64) zs), old W]) rfl
    clear hb1
    refine ⟨hb2, ?_⟩
    refine Reg.step 7 (by kernel_rfl) (One.loadSeg 2 (q) (t := 3) (b := ga) (off := oa + q) (u := Value.int IntKind.i64 zs[q]) hs1 rfl (by kernel_rfl) (by first | rfl | omega) (hzq) (by kernel_rfl) ?_)
    have hb1 := Sat.holds hs1 [0, 1, 2, 3, 5, 6] (B := [cel bB 40 [Value.slice none 0 0, Value.int IntKind.i64 r], seg none 0 3 [], seg (some { block := ga, off := oa }) p 3 (List.map (Value.int IntKind.i64) zs), cel bA 103 [Value.chan (some cA)], seg (some { block := gs, off := os' }) ps 3 (List.map (Value.int IntKind.i64) zs), old W]) rfl
    clear hb2
    refine ⟨hb1, ?_⟩
    refine Reg.pures [8, 9] (fuel' := 0) hb1 rfl (by kernel_rfl) ?_
    refine Reg.done (by kernel_rfl) ?_
    clear hb1
    refine To.run 4 ?_
    refine To.known 103 (v := .int .i64 (IntKind.i64.wrap ((↑q : Int) + 1))) (.int .i64 ((↑q : Int) + 1)) (by kernel_rfl) (by rw [wrap_i64 (by omega) (by omega)]) ?_
    refine To.run 2 ?_
    refine To.run 1 ?_
    refine To.at (fn := Try.f3) (n := 28) (l := [(0, Value.int IntKind.i64 r), (2, Value.slice al len cap), (7, Value.bool true), (8, Value.pointer (some { block := bA, off := 0 })), (10, Value.pointer (some { block := bB, off := 0 })), (11, Value.int IntKind.i64 (↑k : Int)), (12, Value.bool (zs[q] == zs[q])), (13, Value.slice (some { block := gs, off := os' }) zs.length ps), (14, Value.slice (some { block := ga, off := oa }) zs.length p), (15, Value.int IntKind.i64 ((↑q : Int) + 1))]) (by kernel_rfl) fun j => ?_
    rw [beq_self_eq_true]
    exact ihm (q + 1) _ _ (by omega) hs1

theorem LP_loop (W : World) (al : Option Addr) (len cap : Nat) (hD : Deeds W al len) (hlen : len ≤ 9223372036854775807) (bA cA bB : Nat) (r : Int) (hr1 : 1 ≤ r) (hr2 : r ≤ 16) :
    ∀ (m k : Nat) (zs : List Int) (a : Option Addr) (p : Nat) (j : Nat → Value) (w : World), k + m = 60 → zs.length ≤ 16 → Sat W w (lpKnow W r bA cA bB zs a p) →
    To Try.prog 3 (Cfg.here Try.f3 17 j [(0, .int .i64 r), (2, .slice al len cap), (7, .bool true), (8, .pointer (some ⟨bA, 0, none⟩)), (10, .pointer (some ⟨bB, 0, none⟩)), (11, .int .i64 k)]) w (LawEnd W) := by
  intro m
  induction m with
  | zero =>
    intro k zs a p j w hk hz hs
    obtain rfl : k = 60 := by omega
    by_cases hkl : 60 < len
    · refine To.run 8 ?_
      refine To.isTrue 57 (t := decide (60 < (↑len : Int))) (by kernel_rfl) (by (simp; omega)) ?_
      refine To.run 11 ?_
      refine To.retv Try.func3 (by kernel_rfl) (v := Value.bool true) (by kernel_rfl) ?_
      exact hs.lawEnd 4 rfl
    · refine To.run 8 ?_
      refine To.isFalse 57 (t := decide (60 < (↑len : Int))) (by kernel_rfl) (by (simp; omega)) ?_
      refine To.run 11 ?_
      refine To.retv Try.func3 (by kernel_rfl) (v := Value.bool true) (by kernel_rfl) ?_
      exact hs.lawEnd 4 rfl
  | succ m ih =>
    intro k zs a p j w hk hz hs
    by_cases hkl : k < len
    · rcases hD with h0 | ⟨b, off, rfl, hd⟩
      · omega
      obtain ⟨kd, x, hk0, hk1, hc0, hc1⟩ := hd k hkl
      unfold lpKnow at hs
      refine To.run 8 ?_
      refine To.isTrue 57 (t := decide ((↑k : Int) < (↑len : Int))) (by kernel_rfl) (by (simp; omega)) ?_
      refine To.run 4 ?_
      refine To.isTrue 60 (t := decide ((↑k : Int) < 60)) (by kernel_rfl) (by (simp; omega)) ?_
      refine To.run 14 ?_
      refine To.one (One.ixa (k) (off + (k) * 2) (t := 22) (b := b) (off := off) (len := len) (cap := cap) (e := 32) (sz := 2) (kd := IntKind.i64) (i := (↑k : Int)) (by kernel_rfl) (by kernel_rfl) (rfl) (by first | omega | (simp; done) | (simp; omega)) (by omega) ?_)
      refine To.run 1 ?_
      refine To.one (One.loadc (t := 5) (a := ⟨b, off + k * 2, none⟩) (v := Value.int IntKind.u8 kd) (Sat.oldCell hs 4 rfl hc0) (by kernel_rfl) (by kernel_rfl) ?_)
      refine To.run 4 ?_
      refine To.split 78 (t := kd.tmod 8 == 7) (by kernel_rfl) (fun h7 => ?_) (fun h7 => ?_)
      · refine To.run 4 ?_
        refine To.one (One.call 5 [0, 1] [2, 3, 4] (g := 15) (args := [Value.pointer (some { block := bA, off := 0 })]) (by kernel_rfl) hs (DrainI_ok (bA) (cA) (r.toNat) (zs) (by omega)) (by decide) rfl ?_)
        rintro _ _ w1 ⟨s, p1, rfl, rfl⟩ hs1
        simp only [pickAll, List.filterMap_cons, List.filterMap_nil, List.getElem?_cons_zero, List.getElem?_cons_succ, List.cons_append, List.nil_append, List.drop_succ_cons, List.drop_zero] at hs1
        clear hs
        refine To.run 5 ?_
        refine To.one (One.call 6 [3, 4] [0, 1, 2, 5] (g := 16) (args := [Value.pointer (some { block := bB, off := 0 })]) (by kernel_rfl) hs1 (Rdrain (bB) (r) (a) (zs.length) (p) (List.map (Value.int IntKind.i64) zs) (by simp)) (by decide) rfl ?_)
        rintro _ _ w2 ⟨rfl, rfl⟩ hs2
        simp only [pickAll, List.filterMap_cons, List.filterMap_nil, List.getElem?_cons_zero, List.getElem?_cons_succ, List.cons_append, List.nil_append, List.drop_succ_cons, List.drop_zero] at hs2
        clear hs1
        refine To.run 16 ?_
        refine To.run 1 ?_
        refine To.at (fn := Try.f3) (n := 28) (l := [(0, Value.int IntKind.i64 r), (2, Value.slice (some { block := b, off := off }) len cap), (7, Value.bool true), (8, Value.pointer (some { block := bA, off := 0 })), (10, Value.pointer (some { block := bB, off := 0 })), (11, Value.int IntKind.i64 (↑k : Int)), (12, Value.bool ((↑zs.length : Int) == (↑zs.length : Int))), (13, Value.slice s zs.length p1), (14, Value.slice a zs.length p), (15, Value.int IntKind.i64 0)]) (by kernel_rfl) fun j => ?_
        rw [beq_self_eq_true]
        exact LP_inner W _ len cap bA cA bB r hr1 hr2 k (by omega) (fun zs a p j w hz hs => ih (k + 1) zs a p j w (by omega) hz hs) zs hz s p1 a p zs.length 0 _ _ (by omega) (hs2.rowSeg 5 rfl)
      · refine To.run 5 ?_
        refine To.one (One.ixa (k) (off + (k) * 2) (t := 22) (b := b) (off := off) (len := len) (cap := cap) (e := 32) (sz := 2) (kd := IntKind.i64) (i := (↑k : Int)) (by kernel_rfl) (by kernel_rfl) (rfl) (by first | omega | (simp; done) | (simp; omega)) (by omega) ?_)
        refine To.run 1 ?_
        refine To.one (One.loadc (t := 5) (a := ⟨b, off + k * 2, none⟩) (v := Value.int IntKind.u8 kd) (Sat.oldCell hs 4 rfl hc0) (by kernel_rfl) (by kernel_rfl) ?_)
        refine To.run 4 ?_
        refine To.split 113 (t := decide (kd.tmod 8 < 3)) (by kernel_rfl) (fun h3 => ?_) (fun h3 => ?_)
        · cases zs with
          | nil =>
            simp only [List.length_nil, List.map_nil] at hs
            refine To.run 4 ?_
            refine To.one (One.call 5 [0, 1] [2, 3, 4] (g := 17) (args := [Value.pointer (some { block := bA, off := 0 })]) (by kernel_rfl) hs (TakeI_none (bA) (cA) (r.toNat)) (by decide) rfl ?_)
            rintro _ _ w1 ⟨rfl, rfl⟩ hs1
            simp only [pickAll, List.filterMap_cons, List.filterMap_nil, List.getElem?_cons_zero, List.getElem?_cons_succ, List.cons_append, List.nil_append, List.drop_succ_cons, List.drop_zero] at hs1
            clear hs
            refine To.run 9 ?_
            refine To.one (One.call 5 [2, 3] [0, 1, 4] (g := 18) (args := [Value.pointer (some { block := bB, off := 0 })]) (by kernel_rfl) hs1 (Rtake_none (bB) (r) (a) (p)) (by decide) rfl ?_)
            rintro _ _ w2 ⟨rfl, rfl⟩ hs2
            simp only [pickAll, List.filterMap_cons, List.filterMap_nil, List.getElem?_cons_zero, List.getElem?_cons_succ, List.cons_append, List.nil_append, List.drop_succ_cons, List.drop_zero] at hs2
            clear hs1
            refine To.run 19 ?_
            refine To.draw [cel bB 40 [Value.slice a 0 p, Value.int IntKind.i64 r], seg a p 3 [], cel bA 103 [Value.chan (some cA)], old W] 18 hs2 (by kernel_rfl) (by kernel_rfl) (by kernel_rfl) fun w3 hs1 => ?_
            clear hs2
            have hb1 := Sat.holds hs1 [0, 1, 2, 4] rfl
            refine Reg.pures [0, 1, 2, 3, 5, 6, 7] (fuel' := 11) hb1 rfl (by kernel_rfl) ?_
            refine Reg.load 8 0 (t := 33) (off := 0) (v := Value.slice a 0 p) hb1 rfl (by kernel_rfl) (by kernel_rfl) (by kernel_rfl) ?_
            refine Reg.pures [9] (fuel' := 9) hb1 rfl (by kernel_rfl) ?_
            refine Reg.step 4 (by kernel_rfl) (One.call 5 [2, 3] [0, 1, 4] (g := 21) (args := [Value.pointer (some { block := bA, off := 0 })]) (by kernel_rfl) hs1 (LenI_ok (bA) (cA) (r.toNat) ([])) (by decide) rfl ?_)
            rintro _ _ w4 ⟨rfl, rfl⟩ hs2
            simp only [pickAll, List.filterMap_cons, List.filterMap_nil, List.getElem?_cons_zero, List.getElem?_cons_succ, List.cons_append, List.nil_append, List.drop_succ_cons, List.drop_zero] at hs2
            clear hs1
            have hb2 := Sat.holds hs2 [2, 3, 0, 4] (B := [cel bB 40 [Value.slice a 0 p, Value.int IntKind.i64 r], seg a p 3 [], cel bA 103 [Value.chan (some cA)], old W]) rfl
            clear hb1
            refine ⟨hb2, ?_⟩
            refine Reg.pures [10, 11, 12, 13, 15] (fuel' := 3) hb2 rfl (by kernel_rfl) ?_
            refine Reg.step 14 (by kernel_rfl) (One.call 5 [0, 1] [2, 3, 4] (g := 22) (args := [Value.pointer (some { block := bA, off := 0 })]) (by kernel_rfl) hs2 (RoomI_ok (bA) (cA) (r.toNat) ([])) (by decide) rfl ?_)
            rintro _ _ w5 ⟨rfl, rfl⟩ hs1
            simp only [pickAll, List.filterMap_cons, List.filterMap_nil, List.getElem?_cons_zero, List.getElem?_cons_succ, List.cons_append, List.nil_append, List.drop_succ_cons, List.drop_zero] at hs1
            clear hs2
            have hb1 := Sat.holds hs1 [2, 3, 0, 4] (B := [cel bB 40 [Value.slice a 0 p, Value.int IntKind.i64 r], seg a p 3 [], cel bA 103 [Value.chan (some cA)], old W]) rfl
            clear hb2
            refine ⟨hb1, ?_⟩
            refine Reg.pures [16, 17] (fuel' := 0) hb1 rfl (by kernel_rfl) ?_
            refine Reg.done (by kernel_rfl) ?_
            clear hb1
            refine To.isFalse 156 (t := (↑r.toNat : Int) != r) (by kernel_rfl) (by (simp; omega)) ?_
            refine To.run 6 ?_
            refine To.known 62 (v := .int .i64 (IntKind.i64.wrap ((↑k : Int) + 1))) (.int .i64 ((↑k : Int) + 1)) (by kernel_rfl) (by rw [wrap_i64 (by omega) (by omega)]) ?_
            refine To.run 2 ?_
            refine To.run 1 ?_
            refine To.at (fn := Try.f3) (n := 17) (l := [(0, Value.int IntKind.i64 r), (2, Value.slice (some { block := b, off := off }) len cap), (7, Value.bool true), (8, Value.pointer (some { block := bA, off := 0 })), (10, Value.pointer (some { block := bB, off := 0 })), (11, Value.int IntKind.i64 ((↑k : Int) + 1))]) (by kernel_rfl) fun j => ?_
            exact ih (k + 1) [] a p _ _ (by omega) (by simp) hs1
          | cons z zs =>
            simp only [List.length_cons, List.map_cons] at hs hz
            refine To.run 4 ?_
            refine To.one (One.call 5 [0, 1] [2, 3, 4] (g := 17) (args := [Value.pointer (some { block := bA, off := 0 })]) (by kernel_rfl) hs (TakeI_some (bA) (cA) (r.toNat) (Value.int IntKind.i64 z) (List.map (Value.int IntKind.i64) zs)) (by decide) rfl ?_)
            rintro _ _ w1 ⟨rfl, rfl⟩ hs1
            simp only [pickAll, List.filterMap_cons, List.filterMap_nil, List.getElem?_cons_zero, List.getElem?_cons_succ, List.cons_append, List.nil_append, List.drop_succ_cons, List.drop_zero] at hs1
            clear hs
            refine To.run 9 ?_
            refine To.one (One.call 5 [2, 3] [0, 1, 4] (g := 18) (args := [Value.pointer (some { block := bB, off := 0 })]) (by kernel_rfl) hs1 (Rtake_some (bB) (r) (a) (zs.length + 1) (p) (Value.int IntKind.i64 z) (List.map (Value.int IntKind.i64) zs) (by simp) (by (simp; omega))) (by decide) rfl ?_)
            rintro _ _ w2 ⟨a', p', rfl, rfl⟩ hs2
            simp only [pickAll, List.filterMap_cons, List.filterMap_nil, List.getElem?_cons_zero, List.getElem?_cons_succ, List.cons_append, List.nil_append, List.drop_succ_cons, List.drop_zero] at hs2
            clear hs1
            refine To.run 11 ?_
            refine To.isTrue 134 (t := z == z) (by kernel_rfl) (by simp) ?_
            refine To.run 8 ?_
            refine To.draw [cel bB 40 [Value.slice a' (List.map (Value.int IntKind.i64) zs).length p', Value.int IntKind.i64 r], seg a' p' 3 (List.map (Value.int IntKind.i64) zs), cel bA 103 [Value.chan (some cA)], old W] 18 hs2 (by kernel_rfl) (by kernel_rfl) (by kernel_rfl) fun w3 hs1 => ?_
            clear hs2
            have hb1 := Sat.holds hs1 [0, 1, 2, 4] rfl
            refine Reg.pures [0, 1, 2, 3, 5, 6, 7] (fuel' := 11) hb1 rfl (by kernel_rfl) ?_
            refine Reg.load 8 0 (t := 33) (off := 0) (v := Value.slice a' (List.map (Value.int IntKind.i64) zs).length p') hb1 rfl (by kernel_rfl) (by kernel_rfl) (by kernel_rfl) ?_
            refine Reg.pures [9] (fuel' := 9) hb1 rfl (by kernel_rfl) ?_
            refine Reg.step 4 (by kernel_rfl) (One.call 5 [2, 3] [0, 1, 4] (g := 21) (args := [Value.pointer (some { block := bA, off := 0 })]) (by kernel_rfl) hs1 (LenI_ok (bA) (cA) (r.toNat) (List.map (Value.int IntKind.i64) zs)) (by decide) rfl ?_)
            rintro _ _ w4 ⟨rfl, rfl⟩ hs2
            simp only [pickAll, List.filterMap_cons, List.filterMap_nil, List.getElem?_cons_zero, List.getElem?_cons_succ, List.cons_append, List.nil_append, List.drop_succ_cons, List.drop_zero] at hs2
            clear hs1
            have hb2 := Sat.holds hs2 [2, 3, 0, 4] (B := [cel bB 40 [Value.slice a' (List.map (Value.int IntKind.i64) zs).length p', Value.int IntKind.i64 r], seg a' p' 3 (List.map (Value.int IntKind.i64) zs), cel bA 103 [Value.chan (some cA)], old W]) rfl
            clear hb1
            refine ⟨hb2, ?_⟩
            refine Reg.pures [10, 11, 12] (fuel' := 5) hb2 rfl (by kernel_rfl) ?_
            refine Reg.isFalse 151 (t := (↑(List.map (Value.int IntKind.i64) zs).length : Int) != (↑(List.map (Value.int IntKind.i64) zs).length : Int)) (by kernel_rfl) (by simp) ?_
            refine Reg.pures [13, 15] (fuel' := 3) hb2 rfl (by kernel_rfl) ?_
            refine Reg.step 14 (by kernel_rfl) (One.call 5 [0, 1] [2, 3, 4] (g := 22) (args := [Value.pointer (some { block := bA, off := 0 })]) (by kernel_rfl) hs2 (RoomI_ok (bA) (cA) (r.toNat) (List.map (Value.int IntKind.i64) zs)) (by decide) rfl ?_)
            rintro _ _ w5 ⟨rfl, rfl⟩ hs1
            simp only [pickAll, List.filterMap_cons, List.filterMap_nil, List.getElem?_cons_zero, List.getElem?_cons_succ, List.cons_append, List.nil_append, List.drop_succ_cons, List.drop_zero] at hs1
            clear hs2
            have hb1 := Sat.holds hs1 [2, 3, 0, 4] (B := [cel bB 40 [Value.slice a' (List.map (Value.int IntKind.i64) zs).length p', Value.int IntKind.i64 r], seg a' p' 3 (List.map (Value.int IntKind.i64) zs), cel bA 103 [Value.chan (some cA)], old W]) rfl
            clear hb2
            refine ⟨hb1, ?_⟩
            refine Reg.pures [16, 17] (fuel' := 0) hb1 rfl (by kernel_rfl) ?_
            refine Reg.done (by kernel_rfl) ?_
            clear hb1
            refine To.isFalse 156 (t := (↑r.toNat : Int) != r) (by kernel_rfl) (by (simp; omega)) ?_
            refine To.run 8 ?_
            refine To.run 1 ?_
            refine To.at (fn := Try.f3) (n := 17) (l := [(0, Value.int IntKind.i64 r), (2, Value.slice (some { block := b, off := off }) len cap), (7, Value.bool true), (8, Value.pointer (some { block := bA, off := 0 })), (10, Value.pointer (some { block := bB, off := 0 })), (11, Value.int IntKind.i64 (IntKind.i64.wrap ((↑k : Int) + 1)))]) (by kernel_rfl) fun j => ?_
            rw [wrap_i64 (e := (k : Int) + 1) (by omega) (by omega)]
            exact ih (k + 1) zs a' p' _ _ (by omega) (by omega) (by simpa [lpKnow] using hs1)
        · by_cases hf : zs.length < r.toNat
          · refine To.run 1 ?_
            refine To.draw [cel bA 103 [Value.chan (some cA)], old W] 16 hs (by kernel_rfl) (by kernel_rfl) (by kernel_rfl) fun w1 hs1 => ?_
            clear hs
            have hb1 := Sat.holds hs1 [0, 4] rfl
            refine Reg.pures [0, 1, 2, 7, 8, 9] (fuel' := 10) hb1 rfl (by kernel_rfl) ?_
            refine Reg.val 3 hb1 (by kernel_rfl) (by kernel_rfl) (fun w' hw' => Val.ixa (k) (off + (k) * 2) (t := 22) (b := b) (off := off) (len := len) (cap := cap) (e := 32) (sz := 2) (kd := IntKind.i64) (i := (↑k : Int)) (by kernel_rfl) (by kernel_rfl) (rfl) (by first | omega | (simp; done) | (simp; omega)) (by omega)) ?_
            refine Reg.pures [4] (fuel' := 8) hb1 rfl (by kernel_rfl) ?_
            refine Reg.loadOld 5 1 (t := 3) (a := ⟨b, off + k * 2 + 1, none⟩) (v := Value.int IntKind.i64 x) hb1 rfl hc1 (by kernel_rfl) (by kernel_rfl) (by kernel_rfl) ?_
            refine Reg.val 10 hb1 (by kernel_rfl) (by kernel_rfl) (fun w' hw' => Val.ixa (k) (off + (k) * 2) (t := 22) (b := b) (off := off) (len := len) (cap := cap) (e := 32) (sz := 2) (kd := IntKind.i64) (i := (↑k : Int)) (by kernel_rfl) (by kernel_rfl) (rfl) (by first | omega | (simp; done) | (simp; omega)) (by omega)) ?_
            refine Reg.pures [11] (fuel' := 5) hb1 rfl (by kernel_rfl) ?_
            refine Reg.loadOld 12 1 (t := 3) (a := ⟨b, off + k * 2 + 1, none⟩) (v := Value.int IntKind.i64 x) hb1 rfl hc1 (by kernel_rfl) (by kernel_rfl) (by kernel_rfl) ?_
            refine Reg.step 6 (by kernel_rfl) (One.call 5 [0, 1] [2, 3, 4] (g := 19) (args := [Value.pointer (some { block := bA, off := 0 }), Value.int IntKind.i64 x]) (by kernel_rfl) hs1 (PutI_room (bA) (cA) (r.toNat) (List.map (Value.int IntKind.i64) zs) (Value.int IntKind.i64 x) (by (simp; omega))) (by decide) rfl ?_)
            rintro _ _ w2 ⟨rfl, rfl⟩ hs2
            simp only [pickAll, List.filterMap_cons, List.filterMap_nil, List.getElem?_cons_zero, List.getElem?_cons_succ, List.cons_append, List.nil_append, List.drop_succ_cons, List.drop_zero] at hs2
            clear hs1
            have hb2 := Sat.holds hs2 [0, 4] (B := [cel bA 103 [Value.chan (some cA)], old W]) rfl
            clear hb1
            refine ⟨hb2, ?_⟩
            refine Reg.step 13 (by kernel_rfl) (One.call 5 [2, 3] [0, 1, 4] (g := 20) (args := [Value.pointer (some { block := bB, off := 0 }), Value.int IntKind.i64 x]) (by kernel_rfl) hs2 (Rput_room (bB) (r) (a) (zs.length) (p) (zs) (x) (by rfl) (by omega) (by assumption)) (by decide) rfl ?_)
            rintro _ _ w3 ⟨a', p', rfl, rfl⟩ hs1
            simp only [pickAll, List.filterMap_cons, List.filterMap_nil, List.getElem?_cons_zero, List.getElem?_cons_succ, List.cons_append, List.nil_append, List.drop_succ_cons, List.drop_zero] at hs1
            clear hs2
            have hb1 := Sat.holds hs1 [2, 4] (B := [cel bA 103 [Value.chan (some cA)], old W]) rfl
            clear hb2
            refine ⟨hb1, ?_⟩
            refine Reg.pures [14, 15] (fuel' := 0) hb1 rfl (by kernel_rfl) ?_
            refine Reg.done (by kernel_rfl) ?_
            clear hb1
            refine To.run 2 ?_
            refine To.draw [cel bB 40 [Value.slice a' (zs.length + 1) p', Value.int IntKind.i64 r], seg a' p' 3 (List.map (Value.int IntKind.i64) (zs ++ [x])), cel bA 103 [Value.chan (some cA)], old W] 18 hs1 (by kernel_rfl) (by kernel_rfl) (by kernel_rfl) fun w4 hs2 => ?_
            clear hs1
            have hb1 := Sat.holds hs2 [0, 1, 2, 4] rfl
            refine Reg.pures [0, 1, 2, 3, 5, 6, 7] (fuel' := 11) hb1 rfl (by kernel_rfl) ?_
            refine Reg.load 8 0 (t := 33) (off := 0) (v := Value.slice a' (zs.length + 1) p') hb1 rfl (by kernel_rfl) (by kernel_rfl) (by kernel_rfl) ?_
            refine Reg.pures [9] (fuel' := 9) hb1 rfl (by kernel_rfl) ?_
            refine Reg.step 4 (by kernel_rfl) (One.call 5 [2, 3] [0, 1, 4] (g := 21) (args := [Value.pointer (some { block := bA, off := 0 })]) (by kernel_rfl) hs2 (LenI_ok (bA) (cA) (r.toNat) (List.map (Value.int IntKind.i64) zs ++ [Value.int IntKind.i64 x])) (by decide) rfl ?_)
            rintro _ _ w5 ⟨rfl, rfl⟩ hs1
            simp only [pickAll, List.filterMap_cons, List.filterMap_nil, List.getElem?_cons_zero, List.getElem?_cons_succ, List.cons_append, List.nil_append, List.drop_succ_cons, List.drop_zero] at hs1
            clear hs2
            have hb2 := Sat.holds hs1 [2, 3, 0, 4] (B := [cel bB 40 [Value.slice a' (zs.length + 1) p', Value.int IntKind.i64 r], seg a' p' 3 (List.map (Value.int IntKind.i64) (zs ++ [x])), cel bA 103 [Value.chan (some cA)], old W]) rfl
            clear hb1
            refine ⟨hb2, ?_⟩
            refine Reg.pures [10, 11, 12] (fuel' := 5) hb2 rfl (by kernel_rfl) ?_
            refine Reg.isFalse 151 (t := (↑(List.map (Value.int IntKind.i64) zs ++ [Value.int IntKind.i64 x]).length : Int) != (↑(zs.length + 1) : Int)) (by kernel_rfl) (by simp) ?_
            refine Reg.pures [13, 15] (fuel' := 3) hb2 rfl (by kernel_rfl) ?_
            refine Reg.step 14 (by kernel_rfl) (One.call 5 [0, 1] [2, 3, 4] (g := 22) (args := [Value.pointer (some { block := bA, off := 0 })]) (by kernel_rfl) hs1 (RoomI_ok (bA) (cA) (r.toNat) (List.map (Value.int IntKind.i64) zs ++ [Value.int IntKind.i64 x])) (by decide) rfl ?_)
            rintro _ _ w6 ⟨rfl, rfl⟩ hs2
            simp only [pickAll, List.filterMap_cons, List.filterMap_nil, List.getElem?_cons_zero, List.getElem?_cons_succ, List.cons_append, List.nil_append, List.drop_succ_cons, List.drop_zero] at hs2
            clear hs1
            have hb1 := Sat.holds hs2 [2, 3, 0, 4] (B := [cel bB 40 [Value.slice a' (zs.length + 1) p', Value.int IntKind.i64 r], seg a' p' 3 (List.map (Value.int IntKind.i64) (zs ++ [x])), cel bA 103 [Value.chan (some cA)], old W]) rfl
            clear hb2
            refine ⟨hb1, ?_⟩
            refine Reg.pures [16, 17] (fuel' := 0) hb1 rfl (by kernel_rfl) ?_
            refine Reg.done (by kernel_rfl) ?_
            clear hb1
            refine To.isFalse 156 (t := (↑r.toNat : Int) != r) (by kernel_rfl) (by (simp; omega)) ?_
            refine To.run 8 ?_
            refine To.run 1 ?_
            refine To.at (fn := Try.f3) (n := 17) (l := [(0, Value.int IntKind.i64 r), (2, Value.slice (some { block := b, off := off }) len cap), (7, Value.bool true), (8, Value.pointer (some { block := bA, off := 0 })), (10, Value.pointer (some { block := bB, off := 0 })), (11, Value.int IntKind.i64 (IntKind.i64.wrap ((↑k : Int) + 1)))]) (by kernel_rfl) fun j => ?_
            rw [wrap_i64 (e := (k : Int) + 1) (by omega) (by omega)]
            exact ih (k + 1) (zs ++ [x]) a' p' _ _ (by omega) (by simp; omega) (by simpa [lpKnow] using hs2)
          · refine To.run 1 ?_
            refine To.draw [cel bA 103 [Value.chan (some cA)], cel bB 40 [Value.slice a zs.length p, Value.int IntKind.i64 r], seg a p 3 (List.map (Value.int IntKind.i64) zs), old W] 16 hs (by kernel_rfl) (by kernel_rfl) (by kernel_rfl) fun w1 hs1 => ?_
            clear hs
            have hb1 := Sat.holds hs1 [0, 2, 3, 4] rfl
            refine Reg.pures [0, 1, 2, 7, 8, 9] (fuel' := 10) hb1 rfl (by kernel_rfl) ?_
            refine Reg.val 3 hb1 (by kernel_rfl) (by kernel_rfl) (fun w' hw' => Val.ixa (k) (off + (k) * 2) (t := 22) (b := b) (off := off) (len := len) (cap := cap) (e := 32) (sz := 2) (kd := IntKind.i64) (i := (↑k : Int)) (by kernel_rfl) (by kernel_rfl) (rfl) (by first | omega | (simp; done) | (simp; omega)) (by omega)) ?_
            refine Reg.pures [4] (fuel' := 8) hb1 rfl (by kernel_rfl) ?_
            refine Reg.loadOld 5 3 (t := 3) (a := ⟨b, off + k * 2 + 1, none⟩) (v := Value.int IntKind.i64 x) hb1 rfl hc1 (by kernel_rfl) (by kernel_rfl) (by kernel_rfl) ?_
            refine Reg.val 10 hb1 (by kernel_rfl) (by kernel_rfl) (fun w' hw' => Val.ixa (k) (off + (k) * 2) (t := 22) (b := b) (off := off) (len := len) (cap := cap) (e := 32) (sz := 2) (kd := IntKind.i64) (i := (↑k : Int)) (by kernel_rfl) (by kernel_rfl) (rfl) (by first | omega | (simp; done) | (simp; omega)) (by omega)) ?_
            refine Reg.pures [11] (fuel' := 5) hb1 rfl (by kernel_rfl) ?_
            refine Reg.loadOld 12 3 (t := 3) (a := ⟨b, off + k * 2 + 1, none⟩) (v := Value.int IntKind.i64 x) hb1 rfl hc1 (by kernel_rfl) (by kernel_rfl) (by kernel_rfl) ?_
            refine Reg.step 6 (by kernel_rfl) (One.call 5 [0, 1] [2, 3, 4] (g := 19) (args := [Value.pointer (some { block := bA, off := 0 }), Value.int IntKind.i64 x]) (by kernel_rfl) hs1 (PutI_full (bA) (cA) (r.toNat) (List.map (Value.int IntKind.i64) zs) (Value.int IntKind.i64 x) (by (simp; omega))) (by decide) rfl ?_)
            rintro _ _ w2 ⟨rfl, rfl⟩ hs2
            simp only [pickAll, List.filterMap_cons, List.filterMap_nil, List.getElem?_cons_zero, List.getElem?_cons_succ, List.cons_append, List.nil_append, List.drop_succ_cons, List.drop_zero] at hs2
            clear hs1
            have hb2 := Sat.holds hs2 [0, 2, 3, 4] (B := [cel bA 103 [Value.chan (some cA)], cel bB 40 [Value.slice a zs.length p, Value.int IntKind.i64 r], seg a p 3 (List.map (Value.int IntKind.i64) zs), old W]) rfl
            clear hb1
            refine ⟨hb2, ?_⟩
            refine Reg.step 13 (by kernel_rfl) (One.call 5 [2, 3] [0, 1, 4] (g := 20) (args := [Value.pointer (some { block := bB, off := 0 }), Value.int IntKind.i64 x]) (by kernel_rfl) hs2 (Rput_full (bB) (r) (a) (zs.length) (p) (List.map (Value.int IntKind.i64) zs) (Value.int IntKind.i64 x) (by simp) (by omega)) (by decide) rfl ?_)
            rintro _ _ w3 ⟨rfl, rfl⟩ hs1
            simp only [pickAll, List.filterMap_cons, List.filterMap_nil, List.getElem?_cons_zero, List.getElem?_cons_succ, List.cons_append, List.nil_append, List.drop_succ_cons, List.drop_zero] at hs1
            clear hs2
            have hb1 := Sat.holds hs1 [2, 0, 1, 4] (B := [cel bA 103 [Value.chan (some cA)], cel bB 40 [Value.slice a zs.length p, Value.int IntKind.i64 r], seg a p 3 (List.map (Value.int IntKind.i64) zs), old W]) rfl
            clear hb2
            refine ⟨hb1, ?_⟩
            refine Reg.pures [14, 15] (fuel' := 0) hb1 rfl (by kernel_rfl) ?_
            refine Reg.done (by kernel_rfl) ?_
            clear hb1
            refine To.run 2 ?_
            refine To.draw [cel bB 40 [Value.slice a zs.length p, Value.int IntKind.i64 r], seg a p 3 (List.map (Value.int IntKind.i64) zs), cel bA 103 [Value.chan (some cA)], old W] 18 hs1 (by kernel_rfl) (by kernel_rfl) (by kernel_rfl) fun w4 hs2 => ?_
            clear hs1
            have hb1 := Sat.holds hs2 [0, 1, 2, 4] rfl
            refine Reg.pures [0, 1, 2, 3, 5, 6, 7] (fuel' := 11) hb1 rfl (by kernel_rfl) ?_
            refine Reg.load 8 0 (t := 33) (off := 0) (v := Value.slice a zs.length p) hb1 rfl (by kernel_rfl) (by kernel_rfl) (by kernel_rfl) ?_
            refine Reg.pures [9] (fuel' := 9) hb1 rfl (by kernel_rfl) ?_
            refine Reg.step 4 (by kernel_rfl) (One.call 5 [2, 3] [0, 1, 4] (g := 21) (args := [Value.pointer (some { block := bA, off := 0 })]) (by kernel_rfl) hs2 (LenI_ok (bA) (cA) (r.toNat) (List.map (Value.int IntKind.i64) zs)) (by decide) rfl ?_)
            rintro _ _ w5 ⟨rfl, rfl⟩ hs1
            simp only [pickAll, List.filterMap_cons, List.filterMap_nil, List.getElem?_cons_zero, List.getElem?_cons_succ, List.cons_append, List.nil_append, List.drop_succ_cons, List.drop_zero] at hs1
            clear hs2
            have hb2 := Sat.holds hs1 [2, 3, 0, 4] (B := [cel bB 40 [Value.slice a zs.length p, Value.int IntKind.i64 r], seg a p 3 (List.map (Value.int IntKind.i64) zs), cel bA 103 [Value.chan (some cA)], old W]) rfl
            clear hb1
            refine ⟨hb2, ?_⟩
            refine Reg.pures [10, 11, 12] (fuel' := 5) hb2 rfl (by kernel_rfl) ?_
            refine Reg.isFalse 151 (t := (↑(List.map (Value.int IntKind.i64) zs).length : Int) != (↑zs.length : Int)) (by kernel_rfl) (by simp) ?_
            refine Reg.pures [13, 15] (fuel' := 3) hb2 rfl (by kernel_rfl) ?_
            refine Reg.step 14 (by kernel_rfl) (One.call 5 [0, 1] [2, 3, 4] (g := 22) (args := [Value.pointer (some { block := bA, off := 0 })]) (by kernel_rfl) hs1 (RoomI_ok (bA) (cA) (r.toNat) (List.map (Value.int IntKind.i64) zs)) (by decide) rfl ?_)
            rintro _ _ w6 ⟨rfl, rfl⟩ hs2
            simp only [pickAll, List.filterMap_cons, List.filterMap_nil, List.getElem?_cons_zero, List.getElem?_cons_succ, List.cons_append, List.nil_append, List.drop_succ_cons, List.drop_zero] at hs2
            clear hs1
            have hb1 := Sat.holds hs2 [2, 3, 0, 4] (B := [cel bB 40 [Value.slice a zs.length p, Value.int IntKind.i64 r], seg a p 3 (List.map (Value.int IntKind.i64) zs), cel bA 103 [Value.chan (some cA)], old W]) rfl
            clear hb2
            refine ⟨hb1, ?_⟩
            refine Reg.pures [16, 17] (fuel' := 0) hb1 rfl (by kernel_rfl) ?_
            refine Reg.done (by kernel_rfl) ?_
            clear hb1
            refine To.isFalse 156 (t := (↑r.toNat : Int) != r) (by kernel_rfl) (by (simp; omega)) ?_
            refine To.run 8 ?_
            refine To.run 1 ?_
            refine To.at (fn := Try.f3) (n := 17) (l := [(0, Value.int IntKind.i64 r), (2, Value.slice (some { block := b, off := off }) len cap), (7, Value.bool true), (8, Value.pointer (some { block := bA, off := 0 })), (10, Value.pointer (some { block := bB, off := 0 })), (11, Value.int IntKind.i64 (IntKind.i64.wrap ((↑k : Int) + 1)))]) (by kernel_rfl) fun j => ?_
            rw [wrap_i64 (e := (k : Int) + 1) (by omega) (by omega)]
            exact ih (k + 1) zs a p _ _ (by omega) (by omega) hs2
    · refine To.run 8 ?_
      refine To.isFalse 57 (t := decide ((↑k : Int) < (↑len : Int))) (by kernel_rfl) (by (simp; omega)) ?_
      refine To.run 11 ?_
      refine To.retv Try.func3 (by kernel_rfl) (v := Value.bool true) (by kernel_rfl) ?_
      exact hs.lawEnd 4 rfl

theorem near_room (room : Int) : ∃ r : Int, Value.int .i64 (IntKind.i64.wrap (1 + IntKind.i64.wrap ((IntKind.u64.wrap room).tmod 16))) = Value.int .i64 r ∧ 1 ≤ r ∧ r ≤ 16 := by
  have h0 : 0 ≤ IntKind.u64.wrap room := by rw [IntKind.wrap_u64]; omega
  have h1 : (IntKind.u64.wrap room).tmod 16 = IntKind.u64.wrap room % 16 := Int.tmod_eq_emod_of_nonneg h0
  refine ⟨1 + IntKind.u64.wrap room % 16, ?_, by omega, by omega⟩
  rw [h1, wrap_i64 (e := IntKind.u64.wrap room % 16) (by omega) (by omega), wrap_i64 (by omega) (by omega)]

theorem LP_law (W : World) (room : Int) (near : Bool) (al : Option Addr) (len cap : Nat) (hD : Deeds W al len) (hlen : len ≤ 9223372036854775807) :
    Calls Try.prog 3 #[.int .i64 room, .bool near, .slice al len cap] W (LawEnd W) := by
  refine Sx.start (args := [_, _, _]) Try.func3 (by kernel_rfl) ?_
  have hs := Sat.start W
  cases near with
  | true =>
    refine To.run 6 ?_
    refine To.one (One.call 1 [] [0] (g := 12) (args := []) (by kernel_rfl) hs (examples5_ok) (by decide) rfl ?_)
    rintro _ _ w1 ⟨rfl, rfl⟩ hs1
    simp only [pickAll, List.filterMap_cons, List.filterMap_nil, List.getElem?_cons_zero, List.getElem?_cons_succ, List.cons_append, List.nil_append, List.drop_succ_cons, List.drop_zero] at hs1
    clear hs
    refine To.run 19 ?_
    refine To.run 2 ?_
    refine To.run 1 ?_
    refine To.run 5 ?_
    obtain ⟨r, hr, h1, h2⟩ := near_room room
    refine To.known 0 _ (by kernel_rfl) hr ?_
    refine To.known 30 _ (by kernel_rfl) hr ?_
    refine To.one (One.call 1 [] [0] (g := 13) (args := [Value.int IntKind.i64 r]) (by kernel_rfl) hs1 (NewI_ok (r) (by assumption) (by assumption)) (by decide) rfl ?_)
    rintro _ _ w2 ⟨b, c, rfl, rfl⟩ hs2
    simp only [pickAll, List.filterMap_cons, List.filterMap_nil, List.getElem?_cons_zero, List.getElem?_cons_succ, List.cons_append, List.nil_append, List.drop_succ_cons, List.drop_zero] at hs2
    clear hs1
    refine To.run 9 ?_
    refine To.one (One.call 3 [] [0, 1, 2] (g := 14) (args := [Value.int IntKind.i64 r]) (by kernel_rfl) hs2 (Rnew_ok (r) (by assumption) (by assumption)) (by decide) rfl ?_)
    rintro _ _ w3 ⟨b1, rfl, rfl⟩ hs1
    simp only [pickAll, List.filterMap_cons, List.filterMap_nil, List.getElem?_cons_zero, List.getElem?_cons_succ, List.cons_append, List.nil_append, List.drop_succ_cons, List.drop_zero] at hs1
    clear hs2
    refine To.run 28 ?_
    refine To.run 1 ?_
    refine To.at (fn := Try.f3) (n := 17) (l := [(0, Value.int IntKind.i64 r), (2, Value.slice al len cap), (7, Value.bool true), (8, Value.pointer (some { block := b, off := 0 })), (10, Value.pointer (some { block := b1, off := 0 })), (11, Value.int IntKind.i64 0)]) (by kernel_rfl) fun j => ?_
    exact LP_loop W al len cap hD hlen b c b1 r h1 h2 60 0 [] none 0 j _ (by omega) (by simp) (hs1.get [2, 3, 0, 1, 4] (by decide) rfl)
  | false =>
    refine To.run 6 ?_
    refine To.one (One.call 1 [] [0] (g := 12) (args := []) (by kernel_rfl) hs (examples5_ok) (by decide) rfl ?_)
    rintro _ _ w1 ⟨rfl, rfl⟩ hs1
    simp only [pickAll, List.filterMap_cons, List.filterMap_nil, List.getElem?_cons_zero, List.getElem?_cons_succ, List.cons_append, List.nil_append, List.drop_succ_cons, List.drop_zero] at hs1
    clear hs
    refine To.run 20 ?_
    by_cases hv : 1 ≤ room ∧ room ≤ 16
    · obtain ⟨h1, h2⟩ := hv
      refine To.one (One.call 1 [] [0] (g := 13) (args := [Value.int IntKind.i64 room]) (by kernel_rfl) hs1 (NewI_ok (room) (by assumption) (by assumption)) (by decide) rfl ?_)
      rintro _ _ w2 ⟨b, c, rfl, rfl⟩ hs2
      simp only [pickAll, List.filterMap_cons, List.filterMap_nil, List.getElem?_cons_zero, List.getElem?_cons_succ, List.cons_append, List.nil_append, List.drop_succ_cons, List.drop_zero] at hs2
      clear hs1
      refine To.run 9 ?_
      refine To.one (One.call 3 [] [0, 1, 2] (g := 14) (args := [Value.int IntKind.i64 room]) (by kernel_rfl) hs2 (Rnew_ok (room) (by assumption) (by assumption)) (by decide) rfl ?_)
      rintro _ _ w3 ⟨b1, rfl, rfl⟩ hs1
      simp only [pickAll, List.filterMap_cons, List.filterMap_nil, List.getElem?_cons_zero, List.getElem?_cons_succ, List.cons_append, List.nil_append, List.drop_succ_cons, List.drop_zero] at hs1
      clear hs2
      refine To.run 28 ?_
      refine To.run 1 ?_
      refine To.at (fn := Try.f3) (n := 17) (l := [(0, Value.int IntKind.i64 room), (2, Value.slice al len cap), (7, Value.bool true), (8, Value.pointer (some { block := b, off := 0 })), (10, Value.pointer (some { block := b1, off := 0 })), (11, Value.int IntKind.i64 0)]) (by kernel_rfl) fun j => ?_
      exact LP_loop W al len cap hD hlen b c b1 room h1 h2 60 0 [] none 0 j _ (by omega) (by simp) (hs1.get [2, 3, 0, 1, 4] (by decide) rfl)
    · have hv' : room < 1 ∨ 16 < room := by omega
      refine To.one (One.call 1 [] [0] (g := 13) (args := [Value.int IntKind.i64 room]) (by kernel_rfl) hs1 (NewI_bad (room) (by assumption)) (by decide) rfl ?_)
      rintro _ _ w2 ⟨rfl, rfl⟩ hs2
      simp only [pickAll, List.filterMap_cons, List.filterMap_nil, List.getElem?_cons_zero, List.getElem?_cons_succ, List.cons_append, List.nil_append, List.drop_succ_cons, List.drop_zero] at hs2
      clear hs1
      refine To.run 9 ?_
      refine To.one (One.call 1 [] [0] (g := 14) (args := [Value.int IntKind.i64 room]) (by kernel_rfl) hs2 (Rnew_bad (room) (by assumption)) (by decide) rfl ?_)
      rintro _ _ w3 ⟨rfl, rfl⟩ hs1
      simp only [pickAll, List.filterMap_cons, List.filterMap_nil, List.getElem?_cons_zero, List.getElem?_cons_succ, List.cons_append, List.nil_append, List.drop_succ_cons, List.drop_zero] at hs1
      clear hs2
      refine To.run 22 ?_
      refine To.retv Try.func3 (by kernel_rfl) (v := Value.bool true) (by kernel_rfl) ?_
      exact hs1.lawEnd 0 rfl
end Go.Proofs.Ythojpcfaaiefhaa
