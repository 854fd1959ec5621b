import Derived.Test.YtbebkogkeepfoaaBase
/- SHA-256 in plain words: on lists of numbers. -/
namespace Go.Proofs.Ytbebkogkeepfoaa.ShaPlain
open Go.RowKit Go.Proofs.Ytbebkogkeepfoaa.Base Go.Proofs.YtbebkogkeepfoaaW.PrintWords

def xo (a b : Int) : Int := bits .xor .u32 a b
def an (a b : Int) : Int := bits .and .u32 a b
def rot (p q x : Int) : Int := bits .or .u32 (x * q % 4294967296) (x / p)
theorem or_comm (a b : Int) : bits .or .u32 a b = bits .or .u32 b a := by
  unfold bits
  simp only [BitVec.or_comm]
def m32 (x : Int) : Int := x % 4294967296
def word4 (a b c d : Int) : Int := bits .or .u32 (bits .or .u32 (bits .or .u32 (a * 16777216 % 4294967296) (b * 65536)) (c * 256)) d
def low (x : Int) : Int := xo (xo (rot 128 33554432 x) (rot 262144 16384 x)) (x / 8)
def high (x : Int) : Int := xo (xo (rot 131072 32768 x) (rot 524288 8192 x)) (x / 1024)
/-- The t'th word, out of the block and the words ahead of it. -/
def next (b ws : List Int) (t : Nat) : Int :=
  if t < 16 then word4 (b.getD (4 * t) 0) (b.getD (4 * t + 1) 0) (b.getD (4 * t + 2) 0) (b.getD (4 * t + 3) 0)
  else m32 (ws.getD (t - 16) 0 + low (ws.getD (t - 15) 0) + ws.getD (t - 7) 0 + high (ws.getD (t - 2) 0))
def fill (b : List Int) : Nat → List Int
  | 0 => List.replicate 64 0
  | t + 1 => (fill b t).set t (next b (fill b t) t)
def keys : List Int := [
  0x428a2f98, 0x71374491, 0xb5c0fbcf, 0xe9b5dba5, 0x3956c25b, 0x59f111f1, 0x923f82a4, 0xab1c5ed5,
  0xd807aa98, 0x12835b01, 0x243185be, 0x550c7dc3, 0x72be5d74, 0x80deb1fe, 0x9bdc06a7, 0xc19bf174,
  0xe49b69c1, 0xefbe4786, 0x0fc19dc6, 0x240ca1cc, 0x2de92c6f, 0x4a7484aa, 0x5cb0a9dc, 0x76f988da,
  0x983e5152, 0xa831c66d, 0xb00327c8, 0xbf597fc7, 0xc6e00bf3, 0xd5a79147, 0x06ca6351, 0x14292967,
  0x27b70a85, 0x2e1b2138, 0x4d2c6dfc, 0x53380d13, 0x650a7354, 0x766a0abb, 0x81c2c92e, 0x92722c85,
  0xa2bfe8a1, 0xa81a664b, 0xc24b8b70, 0xc76c51a3, 0xd192e819, 0xd6990624, 0xf40e3585, 0x106aa070,
  0x19a4c116, 0x1e376c08, 0x2748774c, 0x34b0bcb5, 0x391c0cb3, 0x4ed8aa4a, 0x5b9cca4f, 0x682e6ff3,
  0x748f82ee, 0x78a5636f, 0x84c87814, 0x8cc70208, 0x90befffa, 0xa4506ceb, 0xbef9a3f7, 0xc67178f2]
def start : List Int := [0x6a09e667, 0xbb67ae85, 0x3c6ef372, 0xa54ff53a, 0x510e527f, 0x9b05688c, 0x1f83d9ab, 0x5be0cd19]
def choice (e f g : Int) : Int := xo (an e f) (an (xo IntKind.u32.max e) g)
def most (a b c : Int) : Int := xo (xo (an a b) (an a c)) (an b c)
def sigE (e : Int) : Int := xo (xo (rot 64 67108864 e) (rot 2048 2097152 e)) (rot 33554432 128 e)
def sigA (a : Int) : Int := xo (xo (rot 4 1073741824 a) (rot 8192 524288 a)) (rot 4194304 1024 a)
def one (v : List Int) (k x : Int) : Int := m32 (v.getD 7 0 + sigE (v.getD 4 0) + choice (v.getD 4 0) (v.getD 5 0) (v.getD 6 0) + k + x)
def two (v : List Int) : Int := m32 (sigA (v.getD 0 0) + most (v.getD 0 0) (v.getD 1 0) (v.getD 2 0))
def step (v : List Int) (k x : Int) : List Int :=
  [m32 (one v k x + two v), v.getD 0 0, v.getD 1 0, v.getD 2 0, m32 (v.getD 3 0 + one v k x), v.getD 4 0, v.getD 5 0, v.getD 6 0]
def rounds (s ws : List Int) : Nat → List Int
  | 0 => s
  | t + 1 => step (rounds s ws t) (keys.getD t 0) (ws.getD t 0)
/-- The state behind a block. -/
def press (s b : List Int) : List Int := List.zipWith (fun x y => m32 (x + y)) s (rounds s (fill b 64) 64)

def U32 (l : List Int) : Prop := ∀ x ∈ l, 0 ≤ x ∧ x ≤ 4294967295
theorem U32.at {l : List Int} (h : U32 l) (i : Nat) : 0 ≤ l.getD i 0 ∧ l.getD i 0 ≤ 4294967295 := by
  rw [List.getD_eq_getElem?_getD]
  by_cases hi : i < l.length
  · rw [List.getElem?_eq_getElem hi]; exact h _ (List.getElem_mem hi)
  · rw [List.getElem?_eq_none (by omega)]; simp
theorem bits_range (op : BinOp) (a b : Int) : 0 ≤ bits op .u32 a b ∧ bits op .u32 a b ≤ 4294967295 := by
  unfold bits
  split <;> (rw [IntKind.wrap_u32]; omega)
theorem m32_range (x : Int) : 0 ≤ m32 x ∧ m32 x ≤ 4294967295 := by unfold m32; omega
theorem fill_len (b : List Int) : ∀ t, (fill b t).length = 64
  | 0 => by simp [fill]
  | t + 1 => by simp [fill, fill_len b t]
theorem next_range (b ws : List Int) (t : Nat) : 0 ≤ next b ws t ∧ next b ws t ≤ 4294967295 := by
  unfold next
  split
  · exact bits_range _ _ _
  · exact m32_range _
theorem U32.set {l : List Int} (h : U32 l) (i : Nat) {x : Int} (hx : 0 ≤ x ∧ x ≤ 4294967295) : U32 (l.set i x) := fun y hy => (List.mem_or_eq_of_mem_set hy).elim (h y) (fun e => e ▸ hx)
theorem fill_u32 (b : List Int) : ∀ t, U32 (fill b t)
  | 0 => fun x hx => by rw [fill] at hx; rw [List.eq_of_mem_replicate hx]; omega
  | t + 1 => (fill_u32 b t).set t (next_range _ _ _)
theorem step_len (v : List Int) (k x : Int) : (step v k x).length = 8 := rfl
theorem step_u32 {v : List Int} (h : U32 v) (k x : Int) : U32 (step v k x) := by
  intro y hy
  simp only [step, List.mem_cons, List.not_mem_nil, or_false] at hy
  rcases hy with rfl | rfl | rfl | rfl | rfl | rfl | rfl | rfl
  all_goals first | exact m32_range _ | exact h.at _
theorem rounds_len {s : List Int} (hs : s.length = 8) (ws : List Int) : ∀ t, (rounds s ws t).length = 8
  | 0 => hs
  | _ + 1 => rfl
theorem rounds_u32 {s : List Int} (hs : U32 s) (ws : List Int) : ∀ t, U32 (rounds s ws t)
  | 0 => hs
  | t + 1 => step_u32 (rounds_u32 hs ws t) _ _
theorem press_len {s : List Int} (hs : s.length = 8) (b : List Int) : (press s b).length = 8 := by simp [press, hs, rounds_len hs]
theorem press_u32 (s b : List Int) : U32 (press s b) := by
  intro x hx
  unfold press at hx
  obtain ⟨i, hi, rfl⟩ := List.mem_iff_getElem.1 hx
  rw [List.getElem_zipWith]
  exact m32_range _
theorem start_u32 : U32 start := by unfold U32 start; decide
theorem keys_u32 : U32 keys := by unfold U32 keys; decide +kernel
end Go.Proofs.Ytbebkogkeepfoaa.ShaPlain
