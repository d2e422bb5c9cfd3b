import Derived.Test.YthojpcfaaiefhaaProg
import Derived.Test.YthojpcfaaiefhaaSxLaw
import Derived.Test.YthojpcfaaiefhaaNops
set_option linter.unusedSimpArgs false
set_option linter.unusedVariables false
namespace Go.Proofs.Ythojpcfaaiefhaa
open Go Go.Sx
set_option linter.unusedSimpArgs false
set_option maxHeartbeats 0

theorem NCopyS_no (nb R : Nat) (dcs f t : Int) (B C : Nat → Nat) (X : Nat → List Value) (h : ¬ isLane dcs f t) : Trip Try.prog 45 [.pointer (some ⟨nb, 0, none⟩), .int .i64 f, .int .i64 t] [cel nb 119 (netCells dcs B), lanes 25 106 R B C X]
    (fun v l => v = .bool false ∧ l = [cel nb 119 (netCells dcs B), lanes 25 106 R B C X]) := by
  refine Trip.of Try.func45 (by kernel_rfl) fun E w L hs => ?_
  simp only [List.cons_append, List.nil_append] at hs
  refine To.run 9 ?_
  refine To.one (One.call 2 [0] [1] (g := 63) (args := [Value.pointer (some { block := nb, off := 0 }), Value.int IntKind.i64 f, Value.int IntKind.i64 t]) (by kernel_rfl) hs (ofS_no (nb) (dcs) (f) (t) (B) (by assumption)) (by decide) rfl ?_)
  rintro _ _ w1 ⟨rfl, rfl⟩ hs1
  simp only [pickAll, List.filterMap_cons, List.filterMap_nil, List.getElem?_cons_zero, List.getElem?_cons_succ, List.cons_append, List.nil_append, List.drop_succ_cons, List.drop_zero] at hs1
  clear hs
  refine To.run 25 ?_
  refine To.retv Try.func45 (by kernel_rfl) (v := Value.bool false) (by kernel_rfl) ?_
  exact ⟨_, _, rfl, ⟨rfl, rfl⟩, hs1⟩

theorem NCopyS_none (nb R : Nat) (dcs f t : Int) (B C : Nat → Nat) (X : Nat → List Value) (h4 : dcs ≤ 4) (h : isLane dcs f t) (hX : X (ln f t) = []) : Trip Try.prog 45 [.pointer (some ⟨nb, 0, none⟩), .int .i64 f, .int .i64 t] [cel nb 119 (netCells dcs B), lanes 25 106 R B C X]
    (fun v l => v = .bool false ∧ l = [cel nb 119 (netCells dcs B), lanes 25 106 R B C X]) := by
  refine Trip.of Try.func45 (by kernel_rfl) fun E w L hs => ?_
  simp only [List.cons_append, List.nil_append] at hs
  have hs := Sat.laneOut (ln f t) (ln_lt h4 h) hs
  rw [hX] at hs
  refine To.run 9 ?_
  refine To.one (One.call 4 [0] [1, 2, 3] (g := 63) (args := [Value.pointer (some { block := nb, off := 0 }), Value.int IntKind.i64 f, Value.int IntKind.i64 t]) (by kernel_rfl) hs (ofS_is (nb) (dcs) (f) (t) (B) (by assumption) (by assumption)) (by decide) rfl ?_)
  rintro _ _ w1 ⟨rfl, rfl⟩ hs1
  simp only [pickAll, List.filterMap_cons, List.filterMap_nil, List.getElem?_cons_zero, List.getElem?_cons_succ, List.cons_append, List.nil_append, List.drop_succ_cons, List.drop_zero] at hs1
  clear hs
  refine To.run 9 ?_
  refine To.one (One.call 4 [1, 2] [0, 3] (g := 25) (args := [Value.pointer (some { block := B (ln f t), off := 0 })]) (by kernel_rfl) hs1 (LenS_ok (B (ln f t)) (C (ln f t)) (R) ([])) (by decide) rfl ?_)
  rintro _ _ w2 ⟨rfl, rfl⟩ hs2
  simp only [pickAll, List.filterMap_cons, List.filterMap_nil, List.getElem?_cons_zero, List.getElem?_cons_succ, List.cons_append, List.nil_append, List.drop_succ_cons, List.drop_zero] at hs2
  clear hs1
  refine To.run 15 ?_
  refine To.retv Try.func45 (by kernel_rfl) (v := Value.bool false) (by kernel_rfl) ?_
  exact ⟨_, _, rfl, ⟨rfl, rfl⟩, Sat.laneBack (ln f t) (ln_lt h4 h) hX hs2.turn3⟩

theorem NCopyS_full (nb R : Nat) (dcs f t : Int) (B C : Nat → Nat) (X : Nat → List Value) (h4 : dcs ≤ 4) (h : isLane dcs f t) (hX : 0 < (X (ln f t)).length) (hR : (X (ln f t)).length = R) : Trip Try.prog 45 [.pointer (some ⟨nb, 0, none⟩), .int .i64 f, .int .i64 t] [cel nb 119 (netCells dcs B), lanes 25 106 R B C X]
    (fun v l => v = .bool false ∧ l = [cel nb 119 (netCells dcs B), lanes 25 106 R B C X]) := by
  refine Trip.of Try.func45 (by kernel_rfl) fun E w L hs => ?_
  simp only [List.cons_append, List.nil_append] at hs
  have hs := Sat.laneOut (ln f t) (ln_lt h4 h) hs
  have hX2 : ¬ X (ln f t) = [] := by
    intro e
    rw [e] at hX
    simp at hX
  refine To.run 9 ?_
  refine To.one (One.call 4 [0] [1, 2, 3] (g := 63) (args := [Value.pointer (some { block := nb, off := 0 }), Value.int IntKind.i64 f, Value.int IntKind.i64 t]) (by kernel_rfl) hs (ofS_is (nb) (dcs) (f) (t) (B) (by assumption) (by assumption)) (by decide) rfl ?_)
  rintro _ _ w1 ⟨rfl, rfl⟩ hs1
  simp only [pickAll, List.filterMap_cons, List.filterMap_nil, List.getElem?_cons_zero, List.getElem?_cons_succ, List.cons_append, List.nil_append, List.drop_succ_cons, List.drop_zero] at hs1
  clear hs
  refine To.run 9 ?_
  refine To.one (One.call 4 [1, 2] [0, 3] (g := 25) (args := [Value.pointer (some { block := B (ln f t), off := 0 })]) (by kernel_rfl) hs1 (LenS_ok (B (ln f t)) (C (ln f t)) (R) (X (ln f t))) (by decide) rfl ?_)
  rintro _ _ w2 ⟨rfl, rfl⟩ hs2
  simp only [pickAll, List.filterMap_cons, List.filterMap_nil, List.getElem?_cons_zero, List.getElem?_cons_succ, List.cons_append, List.nil_append, List.drop_succ_cons, List.drop_zero] at hs2
  clear hs1
  refine To.run 3 ?_
  refine To.isFalse 22 (t := (↑(X (ln f t)).length : Int) == 0) (by kernel_rfl) (by (simp; omega)) ?_
  refine To.run 1 ?_
  refine To.one (One.call 4 [0, 1] [2, 3] (g := 25) (args := [Value.pointer (some { block := B (ln f t), off := 0 })]) (by kernel_rfl) hs2 (LenS_ok (B (ln f t)) (C (ln f t)) (R) (X (ln f t))) (by decide) rfl ?_)
  rintro _ _ w3 ⟨rfl, rfl⟩ hs1
  simp only [pickAll, List.filterMap_cons, List.filterMap_nil, List.getElem?_cons_zero, List.getElem?_cons_succ, List.cons_append, List.nil_append, List.drop_succ_cons, List.drop_zero] at hs1
  clear hs2
  refine To.run 1 ?_
  refine To.one (One.call 4 [0, 1] [2, 3] (g := 64) (args := [Value.pointer (some { block := B (ln f t), off := 0 })]) (by kernel_rfl) hs1 (RoomS_ok (B (ln f t)) (C (ln f t)) (R) (X (ln f t))) (by decide) rfl ?_)
  rintro _ _ w4 ⟨rfl, rfl⟩ hs2
  simp only [pickAll, List.filterMap_cons, List.filterMap_nil, List.getElem?_cons_zero, List.getElem?_cons_succ, List.cons_append, List.nil_append, List.drop_succ_cons, List.drop_zero] at hs2
  clear hs1
  refine To.run 3 ?_
  refine To.isTrue 28 (t := (↑(X (ln f t)).length : Int) == (↑R : Int)) (by kernel_rfl) (by (simp; omega)) ?_
  refine To.run 5 ?_
  refine To.retv Try.func45 (by kernel_rfl) (v := Value.bool false) (by kernel_rfl) ?_
  exact ⟨_, _, rfl, ⟨rfl, rfl⟩, Sat.laneSame (ln f t) (ln_lt h4 h) hs2.turn3⟩

theorem NCopyS_loop (E : World) (L : List Res) (b c R : Nat) (Q : Ending → World → Prop) (zs : List ByteArray) (hz : zs.length ≤ R) (hR2 : R ≤ 1000) (a : Option Addr) (p : Nat)
    (fin : ∀ w, Sat E w (cel b 106 [.chan (some c)] :: chn c R (zs.map (Value.string)) :: row a p 9 (zs.map (Value.string)) :: L) → Q (.returned (.bool true)) w) :
    ∀ (m k : Nat) (j : Nat → Value) (w : World), k + m = zs.length → Sat E w (cel b 106 [.chan (some c)] :: chn c R ((zs.take k).map (Value.string)) :: row a p 9 (zs.map (Value.string)) :: L) →
    To Try.prog 45 (Cfg.here Try.f45 8 j [(7, .pointer (some ⟨b, 0, none⟩)), (36, .slice a zs.length p), (37, .int .i64 zs.length), (38, .int .i64 k)]) w Q := by
  intro m
  induction m with
  | zero =>
    intro k j w hk hs
    obtain rfl : k = zs.length := by omega
    rw [List.take_length] at hs
    refine To.run 5 ?_
    refine To.isFalse 39 (t := decide ((↑zs.length : Int) < (↑zs.length : Int))) (by kernel_rfl) (by simp) ?_
    refine To.run 6 ?_
    refine To.retv Try.func45 (by kernel_rfl) (v := Value.bool true) (by kernel_rfl) ?_
    exact fin _ hs
  | succ m ih =>
    intro k j w hk hs
    have h1 : k < zs.length := by omega
    have hzq : (zs.map (Value.string))[k]? = some (Value.string (zs[k]'h1)) := by simp [h1]
    have e1 : (zs.take (k + 1)).map (Value.string) = (zs.take k).map (Value.string) ++ [Value.string zs[k]] := by rw [List.take_succ_eq_append_getElem h1, List.map_append]; rfl
    have hl : ((zs.take k).map (Value.string)).length < R := by simp; omega
    obtain ⟨g, rfl⟩ := hs.rowAddr 2 rfl (by simp; omega)
    refine To.run 5 ?_
    refine To.isTrue 39 (t := decide ((↑k : Int) < (↑zs.length : Int))) (by kernel_rfl) (by (simp; omega)) ?_
    refine To.run 6 ?_
    refine To.one (One.ixa (k) ((k)) (t := 42) (b := g) (off := 0) (len := zs.length) (cap := p) (e := 9) (sz := 1) (kd := IntKind.i64) (i := (↑k : Int)) (by kernel_rfl) (by kernel_rfl) (rfl) (by first | omega | (simp; done) | (simp; omega)) (by omega) ?_)
    refine To.one (One.loadRow 2 (k) (t := 9) (b := g) (off := k) (u := Value.string zs[k]) hs rfl (by kernel_rfl) (by first | rfl | omega) (hzq) (by kernel_rfl) ?_)
    refine To.run 5 ?_
    refine To.one (One.call 3 [0, 1] [2] (g := 24) (args := [Value.pointer (some { block := b, off := 0 }), Value.string zs[k]]) (by kernel_rfl) hs (PutS_room (b) (c) (R) (List.map Value.string (List.take k zs)) (Value.string zs[k]) (by assumption)) (by decide) rfl ?_)
    rintro _ _ w1 ⟨rfl, rfl⟩ hs1
    simp only [pickAll, List.filterMap_cons, List.filterMap_nil, List.getElem?_cons_zero, List.getElem?_cons_succ, List.cons_append, List.nil_append, List.drop_succ_cons, List.drop_zero] at hs1
    clear hs
    refine To.run 4 ?_
    refine To.known 45 (v := .int .i64 (IntKind.i64.wrap ((↑k : Int) + 1))) (.int .i64 ((↑k : Int) + 1)) (by kernel_rfl) (by rw [wrap_i64 (by omega) (by omega)]) ?_
    refine To.run 2 ?_
    refine To.run 1 ?_
    refine To.at (fn := Try.f45) (n := 8) (l := [(7, Value.pointer (some { block := b, off := 0 })), (36, Value.slice (some { block := g, off := 0 }) zs.length p), (37, Value.int IntKind.i64 (↑zs.length : Int)), (38, Value.int IntKind.i64 ((↑k : Int) + 1))]) (by kernel_rfl) fun j => ?_
    exact ih (k + 1) _ _ (by omega) (by rw [e1]; exact hs1)

theorem NCopyS_ok (nb R : Nat) (dcs f t : Int) (B C : Nat → Nat) (X : Nat → List Value) (h4 : dcs ≤ 4) (h : isLane dcs f t) (z : ByteArray) (zs : List ByteArray) (hX : X (ln f t) = (z :: zs).map (Value.string)) (hR : zs.length + 1 < R) (hR2 : R ≤ 1000) : Trip Try.prog 45 [.pointer (some ⟨nb, 0, none⟩), .int .i64 f, .int .i64 t] [cel nb 119 (netCells dcs B), lanes 25 106 R B C X]
    (fun v l => v = .bool true ∧ l = [cel nb 119 (netCells dcs B), lanes 25 106 R B C (putAt X (ln f t) ((z :: zs ++ [z]).map (Value.string)))]) := by
  refine Trip.of Try.func45 (by kernel_rfl) fun E w L hs => ?_
  simp only [List.cons_append, List.nil_append] at hs
  have hs := Sat.laneOut (ln f t) (ln_lt h4 h) hs
  rw [hX] at hs
  have hz0 : ((z :: zs).map (Value.string))[0]? = some (Value.string z) := rfl
  have hlen : ((z :: zs).map (Value.string)).length = zs.length + 1 := by simp
  refine To.run 9 ?_
  refine To.one (One.call 4 [0] [1, 2, 3] (g := 63) (args := [Value.pointer (some { block := nb, off := 0 }), Value.int IntKind.i64 f, Value.int IntKind.i64 t]) (by kernel_rfl) hs (ofS_is (nb) (dcs) (f) (t) (B) (by assumption) (by assumption)) (by decide) rfl ?_)
  rintro _ _ w1 ⟨rfl, rfl⟩ hs1
  simp only [pickAll, List.filterMap_cons, List.filterMap_nil, List.getElem?_cons_zero, List.getElem?_cons_succ, List.cons_append, List.nil_append, List.drop_succ_cons, List.drop_zero] at hs1
  clear hs
  refine To.run 9 ?_
  refine To.one (One.call 4 [1, 2] [0, 3] (g := 25) (args := [Value.pointer (some { block := B (ln f t), off := 0 })]) (by kernel_rfl) hs1 (LenS_ok (B (ln f t)) (C (ln f t)) (R) (List.map Value.string (z :: zs))) (by decide) rfl ?_)
  rintro _ _ w2 ⟨rfl, rfl⟩ hs2
  simp only [pickAll, List.filterMap_cons, List.filterMap_nil, List.getElem?_cons_zero, List.getElem?_cons_succ, List.cons_append, List.nil_append, List.drop_succ_cons, List.drop_zero] at hs2
  clear hs1
  refine To.run 4 ?_
  refine To.one (One.call 4 [0, 1] [2, 3] (g := 25) (args := [Value.pointer (some { block := B (ln f t), off := 0 })]) (by kernel_rfl) hs2 (LenS_ok (B (ln f t)) (C (ln f t)) (R) (List.map Value.string (z :: zs))) (by decide) rfl ?_)
  rintro _ _ w3 ⟨rfl, rfl⟩ hs1
  simp only [pickAll, List.filterMap_cons, List.filterMap_nil, List.getElem?_cons_zero, List.getElem?_cons_succ, List.cons_append, List.nil_append, List.drop_succ_cons, List.drop_zero] at hs1
  clear hs2
  refine To.run 1 ?_
  refine To.one (One.call 4 [0, 1] [2, 3] (g := 64) (args := [Value.pointer (some { block := B (ln f t), off := 0 })]) (by kernel_rfl) hs1 (RoomS_ok (B (ln f t)) (C (ln f t)) (R) (List.map Value.string (z :: zs))) (by decide) rfl ?_)
  rintro _ _ w4 ⟨rfl, rfl⟩ hs2
  simp only [pickAll, List.filterMap_cons, List.filterMap_nil, List.getElem?_cons_zero, List.getElem?_cons_succ, List.cons_append, List.nil_append, List.drop_succ_cons, List.drop_zero] at hs2
  clear hs1
  refine To.run 3 ?_
  refine To.isFalse 28 (t := (↑(List.map Value.string (z :: zs)).length : Int) == (↑R : Int)) (by kernel_rfl) (by (simp; omega)) ?_
  refine To.run 5 ?_
  refine To.one (One.call 4 [0, 1] [2, 3] (g := 27) (args := [Value.pointer (some { block := B (ln f t), off := 0 })]) (by kernel_rfl) hs2 (DrainS_ok (B (ln f t)) (C (ln f t)) (R) (z :: zs) (by (simp; omega))) (by decide) rfl ?_)
  rintro _ _ w5 ⟨s, p, rfl, rfl⟩ hs1
  simp only [pickAll, List.filterMap_cons, List.filterMap_nil, List.getElem?_cons_zero, List.getElem?_cons_succ, List.cons_append, List.nil_append, List.drop_succ_cons, List.drop_zero] at hs1
  clear hs2
  refine To.run 7 ?_
  obtain ⟨b1, rfl⟩ := Sat.rowAddr hs1 2 rfl (by first | omega | (simp; done) | (simp; omega))
  refine To.one (One.ixa (0) (0) (t := 42) (b := b1) (off := 0) (len := (z :: zs).length) (cap := p) (e := 9) (sz := 1) (kd := IntKind.i64) (i := 0) (by kernel_rfl) (by kernel_rfl) (rfl) (by first | omega | (simp; done) | (simp; omega)) (by omega) ?_)
  refine To.one (One.loadRow 2 (0) (t := 9) (b := b1) (off := 0) (u := Value.string z) hs1 rfl (by kernel_rfl) (by first | rfl | omega) (hz0) (by kernel_rfl) ?_)
  refine To.one (One.slit (t := 42) (n := 1) (parts := [(0, Value.string z)]) 9 [Value.string z] hs1 (by kernel_rfl) (by kernel_rfl) fun b2 w6 hs2 => ?_)
  clear hs1
  refine To.one (One.appRow 3 (t := 42) (ty := 42) (e := 9) (by_ := 16) (a := some { block := b1, off := 0 }) (cap := p) (m := 1) (cp := 1) (n := (z :: zs).length) (xs := List.map Value.string (z :: zs)) (news := [Value.string z]) (b := b2) (off := 0) hs2 rfl (by kernel_rfl) (by first | rfl | (simp; done)) (by kernel_rfl) (by first | rfl | (simp; done)) (fun j u hj => cell_row hs2 0 rfl hj) (by kernel_rfl) (by first | omega | (simp; omega)) (by first | omega | (simp; omega)) fun a1 cap1 w7 hs1 => ?_)
  simp only [List.set_cons_zero, List.set_cons_succ] at hs1
  clear hs2
  replace hs1 := Sat.selDrop hs1 6 [1, 2, 3, 4, 5] (by decide) (by decide)
  simp only [pickAll, List.filterMap_cons, List.filterMap_nil, List.getElem?_cons_zero, List.getElem?_cons_succ, List.cons_append, List.nil_append, List.drop_succ_cons, List.drop_zero] at hs1
  refine To.run 4 ?_
  refine To.run 1 ?_
  refine To.at (fn := Try.f45) (n := 8) (l := [(7, Value.pointer (some { block := B (ln f t), off := 0 })), (36, Value.slice a1 (List.map Value.string (z :: zs) ++ [Value.string z]).length cap1), (37, Value.int IntKind.i64 (↑(List.map Value.string (z :: zs) ++ [Value.string z]).length : Int)), (38, Value.int IntKind.i64 0)]) (by kernel_rfl) fun j => ?_
  have e9 : List.map (Value.string) (z :: zs) ++ [Value.string z] = (z :: zs ++ [z]).map (Value.string) := by simp
  rw [e9] at hs1 ⊢
  have e10 : ((z :: zs ++ [z]).map (Value.string)).length = (z :: zs ++ [z]).length := by simp
  rw [e10]
  refine NCopyS_loop E (cel nb 119 (netCells dcs B) :: laneHole 25 106 R B C X (ln f t) :: L) (B (ln f t)) (C (ln f t)) R _ (z :: zs ++ [z]) (by simp; omega) hR2 a1 cap1 (fun w hs => ?_) _ 0 j _ (Nat.zero_add _) hs1
  exact ⟨_, _, rfl, ⟨rfl, rfl⟩, Sat.laneIn (ln f t) (ln_lt h4 h) hs.turn5⟩

theorem NCopyI_no (nb R : Nat) (dcs f t : Int) (B C : Nat → Nat) (X : Nat → List Value) (h : ¬ isLane dcs f t) : Trip Try.prog 61 [.pointer (some ⟨nb, 0, none⟩), .int .i64 f, .int .i64 t] [cel nb 128 (netCells dcs B), lanes 25 103 R B C X]
    (fun v l => v = .bool false ∧ l = [cel nb 128 (netCells dcs B), lanes 25 103 R B C X]) := by
  refine Trip.of Try.func61 (by kernel_rfl) fun E w L hs => ?_
  simp only [List.cons_append, List.nil_append] at hs
  refine To.run 9 ?_
  refine To.one (One.call 2 [0] [1] (g := 66) (args := [Value.pointer (some { block := nb, off := 0 }), Value.int IntKind.i64 f, Value.int IntKind.i64 t]) (by kernel_rfl) hs (ofI_no (nb) (dcs) (f) (t) (B) (by assumption)) (by decide) rfl ?_)
  rintro _ _ w1 ⟨rfl, rfl⟩ hs1
  simp only [pickAll, List.filterMap_cons, List.filterMap_nil, List.getElem?_cons_zero, List.getElem?_cons_succ, List.cons_append, List.nil_append, List.drop_succ_cons, List.drop_zero] at hs1
  clear hs
  refine To.run 25 ?_
  refine To.retv Try.func61 (by kernel_rfl) (v := Value.bool false) (by kernel_rfl) ?_
  exact ⟨_, _, rfl, ⟨rfl, rfl⟩, hs1⟩

theorem NCopyI_none (nb R : Nat) (dcs f t : Int) (B C : Nat → Nat) (X : Nat → List Value) (h4 : dcs ≤ 4) (h : isLane dcs f t) (hX : X (ln f t) = []) : Trip Try.prog 61 [.pointer (some ⟨nb, 0, none⟩), .int .i64 f, .int .i64 t] [cel nb 128 (netCells dcs B), lanes 25 103 R B C X]
    (fun v l => v = .bool false ∧ l = [cel nb 128 (netCells dcs B), lanes 25 103 R B C X]) := by
  refine Trip.of Try.func61 (by kernel_rfl) fun E w L hs => ?_
  simp only [List.cons_append, List.nil_append] at hs
  have hs := Sat.laneOut (ln f t) (ln_lt h4 h) hs
  rw [hX] at hs
  refine To.run 9 ?_
  refine To.one (One.call 4 [0] [1, 2, 3] (g := 66) (args := [Value.pointer (some { block := nb, off := 0 }), Value.int IntKind.i64 f, Value.int IntKind.i64 t]) (by kernel_rfl) hs (ofI_is (nb) (dcs) (f) (t) (B) (by assumption) (by assumption)) (by decide) rfl ?_)
  rintro _ _ w1 ⟨rfl, rfl⟩ hs1
  simp only [pickAll, List.filterMap_cons, List.filterMap_nil, List.getElem?_cons_zero, List.getElem?_cons_succ, List.cons_append, List.nil_append, List.drop_succ_cons, List.drop_zero] at hs1
  clear hs
  refine To.run 9 ?_
  refine To.one (One.call 4 [1, 2] [0, 3] (g := 21) (args := [Value.pointer (some { block := B (ln f t), off := 0 })]) (by kernel_rfl) hs1 (LenI_ok (B (ln f t)) (C (ln f t)) (R) ([])) (by decide) rfl ?_)
  rintro _ _ w2 ⟨rfl, rfl⟩ hs2
  simp only [pickAll, List.filterMap_cons, List.filterMap_nil, List.getElem?_cons_zero, List.getElem?_cons_succ, List.cons_append, List.nil_append, List.drop_succ_cons, List.drop_zero] at hs2
  clear hs1
  refine To.run 15 ?_
  refine To.retv Try.func61 (by kernel_rfl) (v := Value.bool false) (by kernel_rfl) ?_
  exact ⟨_, _, rfl, ⟨rfl, rfl⟩, Sat.laneBack (ln f t) (ln_lt h4 h) hX hs2.turn3⟩

theorem NCopyI_full (nb R : Nat) (dcs f t : Int) (B C : Nat → Nat) (X : Nat → List Value) (h4 : dcs ≤ 4) (h : isLane dcs f t) (hX : 0 < (X (ln f t)).length) (hR : (X (ln f t)).length = R) : Trip Try.prog 61 [.pointer (some ⟨nb, 0, none⟩), .int .i64 f, .int .i64 t] [cel nb 128 (netCells dcs B), lanes 25 103 R B C X]
    (fun v l => v = .bool false ∧ l = [cel nb 128 (netCells dcs B), lanes 25 103 R B C X]) := by
  refine Trip.of Try.func61 (by kernel_rfl) fun E w L hs => ?_
  simp only [List.cons_append, List.nil_append] at hs
  have hs := Sat.laneOut (ln f t) (ln_lt h4 h) hs
  have hX2 : ¬ X (ln f t) = [] := by
    intro e
    rw [e] at hX
    simp at hX
  refine To.run 9 ?_
  refine To.one (One.call 4 [0] [1, 2, 3] (g := 66) (args := [Value.pointer (some { block := nb, off := 0 }), Value.int IntKind.i64 f, Value.int IntKind.i64 t]) (by kernel_rfl) hs (ofI_is (nb) (dcs) (f) (t) (B) (by assumption) (by assumption)) (by decide) rfl ?_)
  rintro _ _ w1 ⟨rfl, rfl⟩ hs1
  simp only [pickAll, List.filterMap_cons, List.filterMap_nil, List.getElem?_cons_zero, List.getElem?_cons_succ, List.cons_append, List.nil_append, List.drop_succ_cons, List.drop_zero] at hs1
  clear hs
  refine To.run 9 ?_
  refine To.one (One.call 4 [1, 2] [0, 3] (g := 21) (args := [Value.pointer (some { block := B (ln f t), off := 0 })]) (by kernel_rfl) hs1 (LenI_ok (B (ln f t)) (C (ln f t)) (R) (X (ln f t))) (by decide) rfl ?_)
  rintro _ _ w2 ⟨rfl, rfl⟩ hs2
  simp only [pickAll, List.filterMap_cons, List.filterMap_nil, List.getElem?_cons_zero, List.getElem?_cons_succ, List.cons_append, List.nil_append, List.drop_succ_cons, List.drop_zero] at hs2
  clear hs1
  refine To.run 3 ?_
  refine To.isFalse 22 (t := (↑(X (ln f t)).length : Int) == 0) (by kernel_rfl) (by (simp; omega)) ?_
  refine To.run 1 ?_
  refine To.one (One.call 4 [0, 1] [2, 3] (g := 21) (args := [Value.pointer (some { block := B (ln f t), off := 0 })]) (by kernel_rfl) hs2 (LenI_ok (B (ln f t)) (C (ln f t)) (R) (X (ln f t))) (by decide) rfl ?_)
  rintro _ _ w3 ⟨rfl, rfl⟩ hs1
  simp only [pickAll, List.filterMap_cons, List.filterMap_nil, List.getElem?_cons_zero, List.getElem?_cons_succ, List.cons_append, List.nil_append, List.drop_succ_cons, List.drop_zero] at hs1
  clear hs2
  refine To.run 1 ?_
  refine To.one (One.call 4 [0, 1] [2, 3] (g := 22) (args := [Value.pointer (some { block := B (ln f t), off := 0 })]) (by kernel_rfl) hs1 (RoomI_ok (B (ln f t)) (C (ln f t)) (R) (X (ln f t))) (by decide) rfl ?_)
  rintro _ _ w4 ⟨rfl, rfl⟩ hs2
  simp only [pickAll, List.filterMap_cons, List.filterMap_nil, List.getElem?_cons_zero, List.getElem?_cons_succ, List.cons_append, List.nil_append, List.drop_succ_cons, List.drop_zero] at hs2
  clear hs1
  refine To.run 3 ?_
  refine To.isTrue 28 (t := (↑(X (ln f t)).length : Int) == (↑R : Int)) (by kernel_rfl) (by (simp; omega)) ?_
  refine To.run 5 ?_
  refine To.retv Try.func61 (by kernel_rfl) (v := Value.bool false) (by kernel_rfl) ?_
  exact ⟨_, _, rfl, ⟨rfl, rfl⟩, Sat.laneSame (ln f t) (ln_lt h4 h) hs2.turn3⟩

theorem NCopyI_loop (E : World) (L : List Res) (b c R : Nat) (Q : Ending → World → Prop) (zs : List Int) (hz : zs.length ≤ R) (hR2 : R ≤ 1000) (a : Option Addr) (p : Nat)
    (fin : ∀ w, Sat E w (cel b 103 [.chan (some c)] :: chn c R (zs.map (Value.int .i64)) :: row a p 3 (zs.map (Value.int .i64)) :: L) → Q (.returned (.bool true)) w) :
    ∀ (m k : Nat) (j : Nat → Value) (w : World), k + m = zs.length → Sat E w (cel b 103 [.chan (some c)] :: chn c R ((zs.take k).map (Value.int .i64)) :: row a p 3 (zs.map (Value.int .i64)) :: L) →
    To Try.prog 61 (Cfg.here Try.f61 8 j [(7, .pointer (some ⟨b, 0, none⟩)), (36, .slice a zs.length p), (37, .int .i64 zs.length), (38, .int .i64 k)]) w Q := by
  intro m
  induction m with
  | zero =>
    intro k j w hk hs
    obtain rfl : k = zs.length := by omega
    rw [List.take_length] at hs
    refine To.run 5 ?_
    refine To.isFalse 39 (t := decide ((↑zs.length : Int) < (↑zs.length : Int))) (by kernel_rfl) (by simp) ?_
    refine To.run 6 ?_
    refine To.retv Try.func61 (by kernel_rfl) (v := Value.bool true) (by kernel_rfl) ?_
    exact fin _ hs
  | succ m ih =>
    intro k j w hk hs
    have h1 : k < zs.length := by omega
    have hzq : (zs.map (Value.int .i64))[k]? = some (Value.int .i64 (zs[k]'h1)) := by simp [h1]
    have e1 : (zs.take (k + 1)).map (Value.int .i64) = (zs.take k).map (Value.int .i64) ++ [Value.int .i64 zs[k]] := by rw [List.take_succ_eq_append_getElem h1, List.map_append]; rfl
    have hl : ((zs.take k).map (Value.int .i64)).length < R := by simp; omega
    obtain ⟨g, rfl⟩ := hs.rowAddr 2 rfl (by simp; omega)
    refine To.run 5 ?_
    refine To.isTrue 39 (t := decide ((↑k : Int) < (↑zs.length : Int))) (by kernel_rfl) (by (simp; omega)) ?_
    refine To.run 6 ?_
    refine To.one (One.ixa (k) ((k)) (t := 33) (b := g) (off := 0) (len := zs.length) (cap := p) (e := 3) (sz := 1) (kd := IntKind.i64) (i := (↑k : Int)) (by kernel_rfl) (by kernel_rfl) (rfl) (by first | omega | (simp; done) | (simp; omega)) (by omega) ?_)
    refine To.one (One.loadRow 2 (k) (t := 3) (b := g) (off := k) (u := Value.int IntKind.i64 zs[k]) hs rfl (by kernel_rfl) (by first | rfl | omega) (hzq) (by kernel_rfl) ?_)
    refine To.run 5 ?_
    refine To.one (One.call 3 [0, 1] [2] (g := 19) (args := [Value.pointer (some { block := b, off := 0 }), Value.int IntKind.i64 zs[k]]) (by kernel_rfl) hs (PutI_room (b) (c) (R) (List.map (Value.int IntKind.i64) (List.take k zs)) (Value.int IntKind.i64 zs[k]) (by assumption)) (by decide) rfl ?_)
    rintro _ _ w1 ⟨rfl, rfl⟩ hs1
    simp only [pickAll, List.filterMap_cons, List.filterMap_nil, List.getElem?_cons_zero, List.getElem?_cons_succ, List.cons_append, List.nil_append, List.drop_succ_cons, List.drop_zero] at hs1
    clear hs
    refine To.run 4 ?_
    refine To.known 45 (v := .int .i64 (IntKind.i64.wrap ((↑k : Int) + 1))) (.int .i64 ((↑k : Int) + 1)) (by kernel_rfl) (by rw [wrap_i64 (by omega) (by omega)]) ?_
    refine To.run 2 ?_
    refine To.run 1 ?_
    refine To.at (fn := Try.f61) (n := 8) (l := [(7, Value.pointer (some { block := b, off := 0 })), (36, Value.slice (some { block := g, off := 0 }) zs.length p), (37, Value.int IntKind.i64 (↑zs.length : Int)), (38, Value.int IntKind.i64 ((↑k : Int) + 1))]) (by kernel_rfl) fun j => ?_
    exact ih (k + 1) _ _ (by omega) (by rw [e1]; exact hs1)

theorem NCopyI_ok (nb R : Nat) (dcs f t : Int) (B C : Nat → Nat) (X : Nat → List Value) (h4 : dcs ≤ 4) (h : isLane dcs f t) (z : Int) (zs : List Int) (hX : X (ln f t) = (z :: zs).map (Value.int .i64)) (hR : zs.length + 1 < R) (hR2 : R ≤ 1000) : Trip Try.prog 61 [.pointer (some ⟨nb, 0, none⟩), .int .i64 f, .int .i64 t] [cel nb 128 (netCells dcs B), lanes 25 103 R B C X]
    (fun v l => v = .bool true ∧ l = [cel nb 128 (netCells dcs B), lanes 25 103 R B C (putAt X (ln f t) ((z :: zs ++ [z]).map (Value.int .i64)))]) := by
  refine Trip.of Try.func61 (by kernel_rfl) fun E w L hs => ?_
  simp only [List.cons_append, List.nil_append] at hs
  have hs := Sat.laneOut (ln f t) (ln_lt h4 h) hs
  rw [hX] at hs
  have hz0 : ((z :: zs).map (Value.int .i64))[0]? = some (Value.int .i64 z) := rfl
  have hlen : ((z :: zs).map (Value.int .i64)).length = zs.length + 1 := by simp
  refine To.run 9 ?_
  refine To.one (One.call 4 [0] [1, 2, 3] (g := 66) (args := [Value.pointer (some { block := nb, off := 0 }), Value.int IntKind.i64 f, Value.int IntKind.i64 t]) (by kernel_rfl) hs (ofI_is (nb) (dcs) (f) (t) (B) (by assumption) (by assumption)) (by decide) rfl ?_)
  rintro _ _ w1 ⟨rfl, rfl⟩ hs1
  simp only [pickAll, List.filterMap_cons, List.filterMap_nil, List.getElem?_cons_zero, List.getElem?_cons_succ, List.cons_append, List.nil_append, List.drop_succ_cons, List.drop_zero] at hs1
  clear hs
  refine To.run 9 ?_
  refine To.one (One.call 4 [1, 2] [0, 3] (g := 21) (args := [Value.pointer (some { block := B (ln f t), off := 0 })]) (by kernel_rfl) hs1 (LenI_ok (B (ln f t)) (C (ln f t)) (R) (List.map (Value.int IntKind.i64) (z :: zs))) (by decide) rfl ?_)
  rintro _ _ w2 ⟨rfl, rfl⟩ hs2
  simp only [pickAll, List.filterMap_cons, List.filterMap_nil, List.getElem?_cons_zero, List.getElem?_cons_succ, List.cons_append, List.nil_append, List.drop_succ_cons, List.drop_zero] at hs2
  clear hs1
  refine To.run 4 ?_
  refine To.one (One.call 4 [0, 1] [2, 3] (g := 21) (args := [Value.pointer (some { block := B (ln f t), off := 0 })]) (by kernel_rfl) hs2 (LenI_ok (B (ln f t)) (C (ln f t)) (R) (List.map (Value.int IntKind.i64) (z :: zs))) (by decide) rfl ?_)
  rintro _ _ w3 ⟨rfl, rfl⟩ hs1
  simp only [pickAll, List.filterMap_cons, List.filterMap_nil, List.getElem?_cons_zero, List.getElem?_cons_succ, List.cons_append, List.nil_append, List.drop_succ_cons, List.drop_zero] at hs1
  clear hs2
  refine To.run 1 ?_
  refine To.one (One.call 4 [0, 1] [2, 3] (g := 22) (args := [Value.pointer (some { block := B (ln f t), off := 0 })]) (by kernel_rfl) hs1 (RoomI_ok (B (ln f t)) (C (ln f t)) (R) (List.map (Value.int IntKind.i64) (z :: zs))) (by decide) rfl ?_)
  rintro _ _ w4 ⟨rfl, rfl⟩ hs2
  simp only [pickAll, List.filterMap_cons, List.filterMap_nil, List.getElem?_cons_zero, List.getElem?_cons_succ, List.cons_append, List.nil_append, List.drop_succ_cons, List.drop_zero] at hs2
  clear hs1
  refine To.run 3 ?_
  refine To.isFalse 28 (t := (↑(List.map (Value.int IntKind.i64) (z :: zs)).length : Int) == (↑R : Int)) (by kernel_rfl) (by (simp; omega)) ?_
  refine To.run 5 ?_
  refine To.one (One.call 4 [0, 1] [2, 3] (g := 15) (args := [Value.pointer (some { block := B (ln f t), off := 0 })]) (by kernel_rfl) hs2 (DrainI_ok (B (ln f t)) (C (ln f t)) (R) (z :: zs) (by (simp; omega))) (by decide) rfl ?_)
  rintro _ _ w5 ⟨s, p, rfl, rfl⟩ hs1
  simp only [pickAll, List.filterMap_cons, List.filterMap_nil, List.getElem?_cons_zero, List.getElem?_cons_succ, List.cons_append, List.nil_append, List.drop_succ_cons, List.drop_zero] at hs1
  clear hs2
  refine To.run 7 ?_
  obtain ⟨b1, rfl⟩ := Sat.rowAddr hs1 2 rfl (by first | omega | (simp; done) | (simp; omega))
  refine To.one (One.ixa (0) (0) (t := 33) (b := b1) (off := 0) (len := (z :: zs).length) (cap := p) (e := 3) (sz := 1) (kd := IntKind.i64) (i := 0) (by kernel_rfl) (by kernel_rfl) (rfl) (by first | omega | (simp; done) | (simp; omega)) (by omega) ?_)
  refine To.one (One.loadRow 2 (0) (t := 3) (b := b1) (off := 0) (u := Value.int IntKind.i64 z) hs1 rfl (by kernel_rfl) (by first | rfl | omega) (hz0) (by kernel_rfl) ?_)
  refine To.one (One.slit (t := 33) (n := 1) (parts := [(0, Value.int IntKind.i64 z)]) 3 [Value.int IntKind.i64 z] hs1 (by kernel_rfl) (by kernel_rfl) fun b2 w6 hs2 => ?_)
  clear hs1
  refine To.one (One.appRow 3 (t := 33) (ty := 33) (e := 3) (by_ := 8) (a := some { block := b1, off := 0 }) (cap := p) (m := 1) (cp := 1) (n := (z :: zs).length) (xs := List.map (Value.int IntKind.i64) (z :: zs)) (news := [Value.int IntKind.i64 z]) (b := b2) (off := 0) hs2 rfl (by kernel_rfl) (by first | rfl | (simp; done)) (by kernel_rfl) (by first | rfl | (simp; done)) (fun j u hj => cell_row hs2 0 rfl hj) (by kernel_rfl) (by first | omega | (simp; omega)) (by first | omega | (simp; omega)) fun a1 cap1 w7 hs1 => ?_)
  simp only [List.set_cons_zero, List.set_cons_succ] at hs1
  clear hs2
  replace hs1 := Sat.selDrop hs1 6 [1, 2, 3, 4, 5] (by decide) (by decide)
  simp only [pickAll, List.filterMap_cons, List.filterMap_nil, List.getElem?_cons_zero, List.getElem?_cons_succ, List.cons_append, List.nil_append, List.drop_succ_cons, List.drop_zero] at hs1
  refine To.run 4 ?_
  refine To.run 1 ?_
  refine To.at (fn := Try.f61) (n := 8) (l := [(7, Value.pointer (some { block := B (ln f t), off := 0 })), (36, Value.slice a1 (List.map (Value.int IntKind.i64) (z :: zs) ++ [Value.int IntKind.i64 z]).length cap1), (37, Value.int IntKind.i64 (↑(List.map (Value.int IntKind.i64) (z :: zs) ++ [Value.int IntKind.i64 z]).length : Int)), (38, Value.int IntKind.i64 0)]) (by kernel_rfl) fun j => ?_
  have e9 : List.map (Value.int .i64) (z :: zs) ++ [Value.int .i64 z] = (z :: zs ++ [z]).map (Value.int .i64) := by simp
  rw [e9] at hs1 ⊢
  have e10 : ((z :: zs ++ [z]).map (Value.int .i64)).length = (z :: zs ++ [z]).length := by simp
  rw [e10]
  refine NCopyI_loop E (cel nb 128 (netCells dcs B) :: laneHole 25 103 R B C X (ln f t) :: L) (B (ln f t)) (C (ln f t)) R _ (z :: zs ++ [z]) (by simp; omega) hR2 a1 cap1 (fun w hs => ?_) _ 0 j _ (Nat.zero_add _) hs1
  exact ⟨_, _, rfl, ⟨rfl, rfl⟩, Sat.laneIn (ln f t) (ln_lt h4 h) hs.turn5⟩

end Go.Proofs.Ythojpcfaaiefhaa
