import Derived.Test.YtkddomellpldjaaProg
import Derived.Test.YtkddomellpldjaaSxStr
import Derived.Test.YtkddomellpldjaaSrot
set_option linter.unusedSimpArgs false
set_option linter.unusedVariables false
namespace Go.Proofs.Ytkddomellpldjaa
open Go Go.Sx
set_option linter.unusedSimpArgs false
set_option maxHeartbeats 0
set_option maxRecDepth 20000

def sig0 (x : BitVec 32) : BitVec 32 := (rr x 7 ^^^ rr x 18) ^^^ (x >>> 3)
def sig1 (x : BitVec 32) : BitVec 32 := (rr x 17 ^^^ rr x 19) ^^^ (x >>> 10)
def big1 (e : BitVec 32) : BitVec 32 := (rr e 6 ^^^ rr e 11) ^^^ rr e 25
def big0 (a : BitVec 32) : BitVec 32 := (rr a 2 ^^^ rr a 13) ^^^ rr a 22
/-- The t-th number of a block's schedule. -/
def extW (w : List (BitVec 32)) (t : Nat) : List (BitVec 32) := w.set t (((w.getD (t - 16) 0 + sig0 (w.getD (t - 15) 0)) + w.getD (t - 7) 0) + sig1 (w.getD (t - 2) 0))
def extN (w : List (BitVec 32)) (t : Nat) : Nat → List (BitVec 32)
  | 0 => w
  | m + 1 => extN (extW w t) (t + 1) m

structure St8 where
  a : BitVec 32
  b : BitVec 32
  c : BitVec 32
  d : BitVec 32
  e : BitVec 32
  f : BitVec 32
  g : BitVec 32
  h : BitVec 32

def St8.list (s : St8) : List (BitVec 32) := [s.a, s.b, s.c, s.d, s.e, s.f, s.g, s.h]
def t1 (s : St8) (k w : BitVec 32) : BitVec 32 := (((s.h + big1 s.e) + ((s.e &&& s.f) ^^^ (~~~s.e &&& s.g))) + k) + w
def t2 (s : St8) : BitVec 32 := big0 s.a + (((s.a &&& s.b) ^^^ (s.a &&& s.c)) ^^^ (s.b &&& s.c))
def rnd (s : St8) (k w : BitVec 32) : St8 := ⟨t1 s k w + t2 s, s.a, s.b, s.c, s.d + t1 s k w, s.e, s.f, s.g⟩
def rounds (K W : List (BitVec 32)) (s : St8) (t : Nat) : Nat → St8
  | 0 => s
  | m + 1 => rounds K W (rnd s (K.getD t 0) (W.getD t 0)) (t + 1) m
def St8.add (s v : St8) : St8 := ⟨s.a + v.a, s.b + v.b, s.c + v.c, s.d + v.d, s.e + v.e, s.f + v.f, s.g + v.g, s.h + v.h⟩

/-- A block's numbers, byte by byte. -/
def fillP (bs : List UInt8) (w : List (BitVec 32)) (k : Nat) : Nat → List (BitVec 32)
  | 0 => w
  | m + 1 => fillP bs (w.set (k / 4) ((w.getD (k / 4) 0 <<< 8) ||| w8 (bs.getD k 0))) (k + 1) m
/-- Number by number. -/
def be (bs : List UInt8) (t : Nat) : BitVec 32 := ((w8 (bs.getD (4 * t) 0) <<< 24 ||| w8 (bs.getD (4 * t + 1) 0) <<< 16) ||| w8 (bs.getD (4 * t + 2) 0) <<< 8) ||| w8 (bs.getD (4 * t + 3) 0)
def fillR (bs : List UInt8) (w : List (BitVec 32)) (t : Nat) : Nat → List (BitVec 32)
  | 0 => w
  | m + 1 => fillR bs (w.set t (be bs t)) (t + 1) m
def zeros64 : List (BitVec 32) := List.replicate 64 0

def K64 : List (BitVec 32) := [
    0x428a2f98, 0x71374491, 0xb5c0fbcf, 0xe9b5dba5, 0x3956c25b, 0x59f111f1, 0x923f82a4, 0xab1c5ed5,
    0xd807aa98, 0x12835b01, 0x243185be, 0x550c7dc3, 0x72be5d74, 0x80deb1fe, 0x9bdc06a7, 0xc19bf174,
    0xe49b69c1, 0xefbe4786, 0x0fc19dc6, 0x240ca1cc, 0x2de92c6f, 0x4a7484aa, 0x5cb0a9dc, 0x76f988da,
    0x983e5152, 0xa831c66d, 0xb00327c8, 0xbf597fc7, 0xc6e00bf3, 0xd5a79147, 0x06ca6351, 0x14292967,
    0x27b70a85, 0x2e1b2138, 0x4d2c6dfc, 0x53380d13, 0x650a7354, 0x766a0abb, 0x81c2c92e, 0x92722c85,
    0xa2bfe8a1, 0xa81a664b, 0xc24b8b70, 0xc76c51a3, 0xd192e819, 0xd6990624, 0xf40e3585, 0x106aa070,
    0x19a4c116, 0x1e376c08, 0x2748774c, 0x34b0bcb5, 0x391c0cb3, 0x4ed8aa4a, 0x5b9cca4f, 0x682e6ff3,
    0x748f82ee, 0x78a5636f, 0x84c87814, 0x8cc70208, 0x90befffa, 0xa4506ceb, 0xbef9a3f7, 0xc67178f2]

theorem K64_len : K64.length = 64 := by decide

/-- The state behind a block. -/
def blockS (s : St8) (bs : List UInt8) : St8 := s.add (rounds K64 (extN (fillR bs zeros64 0 16) 16 48) s 0 64)

theorem fillR_zero (bs : List UInt8) (i : Nat) : ∀ (m : Nat) (w : List (BitVec 32)) (t : Nat), t + m ≤ i → (fillR bs w t m).getD i 0 = w.getD i 0
  | 0, w, t, _ => rfl
  | m + 1, w, t, h => by
    rw [fillR, fillR_zero bs i m _ _ (by omega)]
    simp only [List.getD_eq_getElem?_getD]
    rw [List.getElem?_set_ne (by omega)]

theorem fillR_len (bs : List UInt8) : ∀ (m : Nat) (w : List (BitVec 32)) (t : Nat), (fillR bs w t m).length = w.length
  | 0, _, _ => rfl
  | m + 1, w, t => by rw [fillR, fillR_len bs m]; simp
theorem extN_len : ∀ (m : Nat) (w : List (BitVec 32)) (t : Nat), (extN w t m).length = w.length
  | 0, _, _ => rfl
  | m + 1, w, t => by rw [extN, extN_len m]; simp [extW]

theorem chain (x y z u : BitVec 32) : ((((((((0 : BitVec 32) <<< 8) ||| x) <<< 8) ||| y) <<< 8) ||| z) <<< 8) ||| u = ((x <<< 24 ||| y <<< 16) ||| z <<< 8) ||| u := by
  have e1 : (0 : BitVec 32) <<< 8 = 0 := by decide
  have e2 : ∀ v : BitVec 32, (0 : BitVec 32) ||| v = v := fun v => by simp
  have e3 : ∀ a b : BitVec 32, (a ||| b) <<< 8 = a <<< 8 ||| b <<< 8 := fun a b => BitVec.shiftLeft_or_distrib a b 8
  have e4 : ∀ a : BitVec 32, (a <<< 8) <<< 8 = a <<< 16 := fun a => (BitVec.shiftLeft_add a 8 8).symm
  have e5 : ∀ a : BitVec 32, (a <<< 8) <<< 16 = a <<< 24 := fun a => (BitVec.shiftLeft_add a 8 16).symm
  rw [e1, e2, e3, e3, e3, e4, e4, e5]

theorem getD_set_self (w : List (BitVec 32)) (i : Nat) (v : BitVec 32) (h : i < w.length) : (w.set i v).getD i 0 = v := by simp [List.getD_eq_getElem?_getD, h]

theorem fillP_eq (bs : List UInt8) : ∀ (m t : Nat) (w : List (BitVec 32)), t + m ≤ w.length → (∀ i, t ≤ i → i < t + m → w.getD i 0 = 0) → fillP bs w (4 * t) (4 * m) = fillR bs w t m
  | 0, _, _, _, _ => rfl
  | m + 1, t, w, hl, hz => by
    rw [show 4 * (m + 1) = 4 * m + 1 + 1 + 1 + 1 by omega, fillP, fillP, fillP, fillP, fillR]
    have d0 : 4 * t / 4 = t := by omega
    have d1 : (4 * t + 1) / 4 = t := by omega
    have d2 : (4 * t + 1 + 1) / 4 = t := by omega
    have d3 : (4 * t + 1 + 1 + 1) / 4 = t := by omega
    rw [d0, d1, d2, d3]
    simp only [List.set_set]
    rw [getD_set_self _ _ _ (by omega), getD_set_self _ _ _ (by omega), getD_set_self _ _ _ (by omega), hz t (by omega) (by omega), chain]
    have e : be bs t = ((w8 (bs.getD (4 * t) 0) <<< 24 ||| w8 (bs.getD (4 * t + 1) 0) <<< 16) ||| w8 (bs.getD (4 * t + 1 + 1) 0) <<< 8) ||| w8 (bs.getD (4 * t + 1 + 1 + 1) 0) := rfl
    rw [← e, show 4 * t + 1 + 1 + 1 + 1 = 4 * (t + 1) by omega]
    refine fillP_eq bs m (t + 1) _ (by simp; omega) (fun i h1 h2 => ?_)
    have := hz i (by omega) (by omega)
    simp only [List.getD_eq_getElem?_getD] at this ⊢
    rw [List.getElem?_set_ne (by omega)]
    exact this

/-! ### numbers in a block of memory -/
theorem uLoad (w : List (BitVec 32)) (k : Nat) (hk : k < w.length) : loadV Try.prog 25 (w.map U) k = some (U (w.getD k 0)) := by
  have h : ∀ (vs : List Value) (k : Nat), loadV Try.prog 25 vs k = vs[k]? := fun vs k => by kernel_rfl
  rw [h, List.getElem?_map, List.getElem?_eq_getElem hk, List.getD_eq_getElem?_getD, List.getElem?_eq_getElem hk]
  rfl
theorem uStore (w : List (BitVec 32)) (k : Nat) (hk : k < w.length) (v : BitVec 32) : storeV Try.prog 25 (U v) (w.map U) k = some ((w.set k v).map U) := by
  have h : ∀ (vs : List Value) (k : Nat), storeV Try.prog 25 (U v) vs k = if k + 1 ≤ vs.length then some (vs.take k ++ [U v] ++ vs.drop (k + 1)) else none := fun vs k => by kernel_rfl
  rw [h, if_pos (by simp; omega), List.map_set, List.set_eq_take_append_cons_drop, if_pos (by simp; omega)]
  simp
end Go.Proofs.Ytkddomellpldjaa
