/- Own and printed texts, laid together. -/
import Derived.Test.YtfpkgdenohcglaaProg
import Derived.Below
import Derived.Deep.Draws
import Derived.Deep.AppendLies
import Derived.Maps.AppendAt
import Derived.OwnWalk
import Derived.Laws.BytesArg
import Derived.Laws.MakeOwn
import Derived.Laws.OwnMore
import Derived.Deep.OwnRows
import Derived.Tactics
import Derived.Lib.ConvBytes
import Derived.Laws.Slices
import Derived.WalkKit
import Derived.KernelRfl
import Derived.RowKit3
import Derived.Deep.LoopGhost
import Derived.Deep.QuietTactic
import Derived.BigQuiet
import Derived.WideLaws
import Derived.Deep.DeepCutAuto
import Derived.Deep.CutBlock
import Derived.Deep.RegionHeld3
import Derived.Laws.Rows
import Derived.Lib.AppendStr
import Derived.ArgAppend
import Derived.Laws.IdiomCopy
import Derived.OrdersHeld
import Derived.Laws.BitsLemmas
import Derived.RowKit
import Derived.Test.YtfpkgdenohcglaaChZA
import Derived.Lib.SlBytesConst
import Derived.StillTailTactics
import Derived.Laws.CopyOwn
import Derived.Great.BuildSlice
import Derived.Deep.WholeRow
import Derived.Deep.DeepMust
import Derived.Deep.RegionLaw
import Derived.ChangeKeysEq
import Derived.Deep.RegionWith
import Derived.ProofKit
import Derived.Deep.Slices
import Derived.StillTactics
import Derived.Deep.MidRow
import Derived.WideShapes
import Derived.Lib.SliceRun
/- What every text of this claim stands on: the imports, and a few laws on kinds. -/
namespace Go.Proofs.Ytfpkgdenohcglaa.Base
open Go.RowKit Go.Proofs.YtfpkgdenohcglaaW.PrintWords Go.Proofs.YtfpkgdenohcglaaW.PrintLast Go.Proofs.YtfpkgdenohcglaaW.PrintMore

/-- Bytes that are read stay so where another block alone is written. -/
theorem reads_keep {w w1 : World} {g : Nat} {k : IntKind} {A : Option Addr} {xs : List Int} (h : Kd.C (Kd.int k) w A xs.length xs) (hk : KeepBut w w1 g none) (hne : ∀ a, A = some a → 0 < xs.length → a.block ≠ g) : Kd.C (Kd.int k) w1 A xs.length xs := by
  have h' := Kd.reads_of_C (d := (0 : Int)) h
  refine Kd.C_of_reads (d := (0 : Int)) ⟨h'.1, h'.2.1, fun h0 => ?_⟩
  obtain ⟨ad, e, hc⟩ := h'.2.2 h0
  refine ⟨ad, e, fun j hj => keep_cell hk (hc j hj) ?_⟩
  rw [show (ad.add j).block = ad.block from by unfold Addr.add; split <;> rfl]
  exact hne ad e h0
theorem keep_set (w : World) (g j : Nat) (v : Value) : KeepBut w (w.setCell ⟨g, j, none⟩ v) g none := (KeepBut.refl w g none).set_ j v
/-- Numbers do not lie in a block whose cells are none. -/
theorem reads_ne {w : World} {g T : Nat} {cs : Array Value} {k : IntKind} {A : Option Addr} {xs : List Int} (hb : w.heap[g]? = some (.cells cs T (0, 0))) (hcs : ∀ i : Nat, ∀ v, cs[i]? = some v → ∀ n, v ≠ .int k n) (h : Kd.C (Kd.int k) w A xs.length xs) : ∀ a, A = some a → 0 < xs.length → a.block ≠ g := by
  intro a ha h0 hg
  have h' := Kd.reads_of_C (d := (0 : Int)) h
  obtain ⟨ad, e, hc⟩ := h'.2.2 h0
  rw [ha] at e
  injection e with e
  subst e
  have h1 := hc 0 h0
  have e0 : (a.add 0).block = g := by rw [show (a.add 0).block = a.block from by unfold Addr.add; split <;> rfl]; exact hg
  unfold World.cell? at h1
  rw [e0, hb] at h1
  dsimp only at h1
  split at h1
  · cases h1
  · exact hcs _ _ h1 _ rfl
/-- Bytes that are read. -/
abbrev Rb (w : World) (A : Option Addr) (xs : List Int) : Prop := Kd.C (Kd.int .u8) w A xs.length xs
/-- Bytes of the call's own. -/
abbrev Ob (w : World) (base : Nat) (v : Value) (xs : List Int) : Prop := Kd.R (Kd.int .u8) 5 w base (fun _ => True) v xs
theorem info_u8 : (Try.prog.info? 5).map (fun i => (i.zero, i.size, i.bytes)) = some (some (.int .u8 0), 1, 1) := by kernel_rfl
theorem rd_nat' (xs : List Int) (i : Nat) (h : i < xs.length) : rd xs (i : Int) = xs[i] := by simp [rd, List.getD_eq_getElem?_getD, List.getElem?_eq_getElem h]
/-- A row of bytes of the call's own, read. -/
theorem Ob.reads {w : World} {base : Nat} {v : Value} {xs : List Int} (h : Ob w base v xs) : ∃ A c, v = .slice A xs.length c ∧ xs.length ≤ c ∧ Rb w A xs := Kd.R_reads h
theorem Rb.at0 {w : World} {A : Option Addr} {x : Int} {xs : List Int} (h : Rb w A (x :: xs)) : ∃ ad, A = some ad ∧ w.cell? ad = some (.int .u8 x) := by
  obtain ⟨ad, e, hc⟩ := Kd.at_int h 0 (by omega) (by simp)
  exact ⟨ad, e, by simpa [rd, Addr.add] using hc⟩
/-- Bytes that are written out. -/
theorem lit_bytes {P : Program} {ops : Array Oper} {rest : List Oper} {o : Oper} {a : Act} {Q : Exit → Act → World → Prop} {W : World} {N : Tmp} (hgd : o.guard = none) (hd : o.dst = some N) (xs : List Int) (inner : List Value) (hi : inner = nums .u8 xs)
    (hrun : (execOp a.eval o).run P W = .ok (.value (.slice (some ⟨W.heap.size, 0, none⟩) xs.length xs.length)) (W.alloc (.cells inner.toArray 5))) (hm : xs.length ≤ 9223372036854775807)
    (h : ∀ v1 w1, Ob w1 W.heap.size v1 xs → Below W.heap.size W w1 → wpList P ops Q rest (a.put o.dst v1) w1) : wpList P ops Q (o :: rest) a W := by
  subst hi
  exact Kd.R_lit (Kd.int .u8) W.heap.size 5 hgd hd (okp := fun _ => True) hrun (Kd.reps_scalar (enc := Value.int .u8) xs) (fun _ hk => hk) trivial (Below.refl _ _) (Nat.le_refl _) hm (fun v1 w1 h1 h2 _ _ => h v1 w1 h1 h2)
/-- The bytes of a text that is written out, read. -/
theorem const_reads (w : World) (xs : List Int) (C : Array Value) (fr : Nat × Nat) (hC : C = (nums .u8 xs).toArray) (hm : xs.length ≤ 9223372036854775807) : Rb (w.alloc (.cells C 5 fr)) (some ⟨w.heap.size, 0, none⟩) xs := by
  subst hC
  refine Kd.C_of_reads (d := (0 : Int)) ⟨rfl, hm, fun _ => ⟨_, rfl, fun j hj => ?_⟩⟩
  have e : (⟨w.heap.size, 0, none⟩ : Addr).add j = ⟨w.heap.size, j, none⟩ := add_plain _ _
  rw [e]
  have hb : (w.alloc (.cells (nums .u8 xs).toArray 5 fr)).heap[w.heap.size]? = some (.cells (nums .u8 xs).toArray 5 fr) := heap_alloc_new _ _
  unfold World.cell?
  dsimp only
  rw [hb]
  simp [nums, List.getElem?_eq_getElem hj, List.getD_eq_getElem?_getD]
/-- Rows of bytes that are read. -/
abbrev Rr (w : World) (A : Option Addr) (xs : List (List Int)) : Prop := Kd.C (Kd.slice 5 (Kd.int .u8)) w A xs.length xs
/-- A slice of rows that is written out. -/
theorem lit_rows {P : Program} {ops : Array Oper} {rest : List Oper} {o : Oper} {a : Act} {Q : Exit → Act → World → Prop} {W : World} {N : Tmp} {e : TypeId} (hgd : o.guard = none) (_hd : o.dst = some N) (xs : List (List Int)) (inner : List Value)
    (hi : inner.length = xs.length ∧ ∀ (j : Nat) (l : List Int), xs[j]? = some l → ∃ A c, inner[j]? = some (Value.slice A l.length c) ∧ l.length ≤ c ∧ Rb W A l)
    (hrun : (execOp a.eval o).run P W = .ok (.value (.slice (some ⟨W.heap.size, 0, none⟩) xs.length xs.length)) (W.alloc (.cells inner.toArray e))) (hm : xs.length ≤ 9223372036854775807)
    (h : ∀ A1 w1, Rr w1 A1 xs → Below W.heap.size W w1 → wpList P ops Q rest (a.put o.dst (.slice A1 xs.length xs.length)) w1) : wpList P ops Q (o :: rest) a W := by
  refine Kd.event_run hgd hrun (h _ _ ⟨rfl, hm, fun _ => ⟨_, rfl, fun j l hj => ?_⟩⟩ ((Below.refl _ W).alloc (Nat.le_refl _) _))
  obtain ⟨A, c, h1, h2, h3⟩ := hi.2 j l hj
  refine ⟨[.slice A l.length c], rfl, ⟨A, c, rfl, h2, Kd.C_alloc h3 _⟩, fun i u hu => ?_⟩
  have hi0 : i = 0 := by
    have := (List.getElem?_eq_some_iff.1 hu).1
    simp at this
    exact this
  subst hi0
  rw [show j * (Kd.slice 5 (Kd.int .u8)).sz + 0 = j from by show j * 1 + 0 = j; omega, add_plain]
  rw [blk_cell (blk_new W (.cells inner.toArray e))]
  rw [show inner.toArray[j]? = inner[j]? from by simp, h1]
  exact hu
/-- Two rows, three rows: what 'lit_rows' asks of them. -/
theorem rows2 {W : World} {a b : List Int} {A B : Option Addr} {ca cb : Nat} (ha : Rb W A a) (hca : a.length ≤ ca) (hb : Rb W B b) (hcb : b.length ≤ cb) :
    [Value.slice A a.length ca, .slice B b.length cb].length = [a, b].length ∧ ∀ (j : Nat) (l : List Int), [a, b][j]? = some l → ∃ A' c, [Value.slice A a.length ca, .slice B b.length cb][j]? = some (Value.slice A' l.length c) ∧ l.length ≤ c ∧ Rb W A' l := by
  refine ⟨rfl, fun j l hj => ?_⟩
  match j, hj with
  | 0, hj => cases hj; exact ⟨_, _, rfl, hca, ha⟩
  | 1, hj => cases hj; exact ⟨_, _, rfl, hcb, hb⟩
/-- A take of bytes that are read. -/
theorem Rb.take {w : World} {A : Option Addr} {xs : List Int} (h : Rb w A xs) (n : Nat) (hn : n ≤ xs.length) : Rb w A (xs.take n) := by
  have h5 := Kd.C_of_reads (d := (0 : Int)) (h1 := fun _ => rfl) (ReadsInt.take_ (Kd.reads_of_C (d := (0 : Int)) h) n hn)
  show Kd.C _ w A (xs.take n).length (xs.take n)
  rw [show (xs.take n).length = n from by rw [List.length_take]; omega]
  exact h5
theorem Rb.len {w : World} {A : Option Addr} {xs : List Int} (h : Rb w A xs) : xs.length ≤ 9223372036854775807 := (Kd.reads_of_C (d := (0 : Int)) h).2.1
end Go.Proofs.Ytfpkgdenohcglaa.Base
/- SHA-256 in plain words: on lists of numbers. -/
namespace Go.Proofs.Ytfpkgdenohcglaa.ShaPlain
open Go.RowKit Go.Proofs.Ytfpkgdenohcglaa.Base Go.Proofs.YtfpkgdenohcglaaW.PrintWords

def xo (a b : Int) : Int := bits .xor .u32 a b
def an (a b : Int) : Int := bits .and .u32 a b
def rot (p q x : Int) : Int := bits .or .u32 (x * q % 4294967296) (x / p)
def m32 (x : Int) : Int := x % 4294967296
def word4 (a b c d : Int) : Int := bits .or .u32 (bits .or .u32 (bits .or .u32 (a * 16777216 % 4294967296) (b * 65536)) (c * 256)) d
def low (x : Int) : Int := xo (xo (rot 128 33554432 x) (rot 262144 16384 x)) (x / 8)
def high (x : Int) : Int := xo (xo (rot 131072 32768 x) (rot 524288 8192 x)) (x / 1024)
/-- The t'th word, out of the block and the words ahead of it. -/
def next (b ws : List Int) (t : Nat) : Int :=
  if t < 16 then word4 (b.getD (4 * t) 0) (b.getD (4 * t + 1) 0) (b.getD (4 * t + 2) 0) (b.getD (4 * t + 3) 0)
  else m32 (ws.getD (t - 16) 0 + low (ws.getD (t - 15) 0) + ws.getD (t - 7) 0 + high (ws.getD (t - 2) 0))
def fill (b : List Int) : Nat → List Int
  | 0 => List.replicate 64 0
  | t + 1 => (fill b t).set t (next b (fill b t) t)
def keys : List Int := [
  0x428a2f98, 0x71374491, 0xb5c0fbcf, 0xe9b5dba5, 0x3956c25b, 0x59f111f1, 0x923f82a4, 0xab1c5ed5,
  0xd807aa98, 0x12835b01, 0x243185be, 0x550c7dc3, 0x72be5d74, 0x80deb1fe, 0x9bdc06a7, 0xc19bf174,
  0xe49b69c1, 0xefbe4786, 0x0fc19dc6, 0x240ca1cc, 0x2de92c6f, 0x4a7484aa, 0x5cb0a9dc, 0x76f988da,
  0x983e5152, 0xa831c66d, 0xb00327c8, 0xbf597fc7, 0xc6e00bf3, 0xd5a79147, 0x06ca6351, 0x14292967,
  0x27b70a85, 0x2e1b2138, 0x4d2c6dfc, 0x53380d13, 0x650a7354, 0x766a0abb, 0x81c2c92e, 0x92722c85,
  0xa2bfe8a1, 0xa81a664b, 0xc24b8b70, 0xc76c51a3, 0xd192e819, 0xd6990624, 0xf40e3585, 0x106aa070,
  0x19a4c116, 0x1e376c08, 0x2748774c, 0x34b0bcb5, 0x391c0cb3, 0x4ed8aa4a, 0x5b9cca4f, 0x682e6ff3,
  0x748f82ee, 0x78a5636f, 0x84c87814, 0x8cc70208, 0x90befffa, 0xa4506ceb, 0xbef9a3f7, 0xc67178f2]
def start : List Int := [0x6a09e667, 0xbb67ae85, 0x3c6ef372, 0xa54ff53a, 0x510e527f, 0x9b05688c, 0x1f83d9ab, 0x5be0cd19]
def choice (e f g : Int) : Int := xo (an e f) (an (xo IntKind.u32.max e) g)
def most (a b c : Int) : Int := xo (xo (an a b) (an a c)) (an b c)
def sigE (e : Int) : Int := xo (xo (rot 64 67108864 e) (rot 2048 2097152 e)) (rot 33554432 128 e)
def sigA (a : Int) : Int := xo (xo (rot 4 1073741824 a) (rot 8192 524288 a)) (rot 4194304 1024 a)
def one (v : List Int) (k x : Int) : Int := m32 (v.getD 7 0 + sigE (v.getD 4 0) + choice (v.getD 4 0) (v.getD 5 0) (v.getD 6 0) + k + x)
def two (v : List Int) : Int := m32 (sigA (v.getD 0 0) + most (v.getD 0 0) (v.getD 1 0) (v.getD 2 0))
def step (v : List Int) (k x : Int) : List Int :=
  [m32 (one v k x + two v), v.getD 0 0, v.getD 1 0, v.getD 2 0, m32 (v.getD 3 0 + one v k x), v.getD 4 0, v.getD 5 0, v.getD 6 0]
def rounds (s ws : List Int) : Nat → List Int
  | 0 => s
  | t + 1 => step (rounds s ws t) (keys.getD t 0) (ws.getD t 0)
/-- The state behind a block. -/
def press (s b : List Int) : List Int := List.zipWith (fun x y => m32 (x + y)) s (rounds s (fill b 64) 64)

def U32 (l : List Int) : Prop := ∀ x ∈ l, 0 ≤ x ∧ x ≤ 4294967295
theorem U32.at {l : List Int} (h : U32 l) (i : Nat) : 0 ≤ l.getD i 0 ∧ l.getD i 0 ≤ 4294967295 := by
  rw [List.getD_eq_getElem?_getD]
  by_cases hi : i < l.length
  · rw [List.getElem?_eq_getElem hi]; exact h _ (List.getElem_mem hi)
  · rw [List.getElem?_eq_none (by omega)]; simp
theorem bits_range (op : BinOp) (a b : Int) : 0 ≤ bits op .u32 a b ∧ bits op .u32 a b ≤ 4294967295 := by
  unfold bits
  split <;> (rw [IntKind.wrap_u32]; omega)
theorem m32_range (x : Int) : 0 ≤ m32 x ∧ m32 x ≤ 4294967295 := by unfold m32; omega
theorem fill_len (b : List Int) : ∀ t, (fill b t).length = 64
  | 0 => by simp [fill]
  | t + 1 => by simp [fill, fill_len b t]
theorem next_range (b ws : List Int) (t : Nat) : 0 ≤ next b ws t ∧ next b ws t ≤ 4294967295 := by
  unfold next
  split
  · exact bits_range _ _ _
  · exact m32_range _
theorem U32.set {l : List Int} (h : U32 l) (i : Nat) {x : Int} (hx : 0 ≤ x ∧ x ≤ 4294967295) : U32 (l.set i x) := fun y hy => (List.mem_or_eq_of_mem_set hy).elim (h y) (fun e => e ▸ hx)
theorem fill_u32 (b : List Int) : ∀ t, U32 (fill b t)
  | 0 => fun x hx => by rw [fill] at hx; rw [List.eq_of_mem_replicate hx]; omega
  | t + 1 => (fill_u32 b t).set t (next_range _ _ _)
theorem step_u32 {v : List Int} (h : U32 v) (k x : Int) : U32 (step v k x) := by
  intro y hy
  simp only [step, List.mem_cons, List.not_mem_nil, or_false] at hy
  rcases hy with rfl | rfl | rfl | rfl | rfl | rfl | rfl | rfl
  all_goals first | exact m32_range _ | exact h.at _
theorem rounds_len {s : List Int} (hs : s.length = 8) (ws : List Int) : ∀ t, (rounds s ws t).length = 8
  | 0 => hs
  | _ + 1 => rfl
theorem rounds_u32 {s : List Int} (hs : U32 s) (ws : List Int) : ∀ t, U32 (rounds s ws t)
  | 0 => hs
  | t + 1 => step_u32 (rounds_u32 hs ws t) _ _
theorem start_u32 : U32 start := by unfold U32 start; decide
end Go.Proofs.Ytfpkgdenohcglaa.ShaPlain
/- Words turned to the right: the walks. -/
namespace Go.Proofs.Ytfpkgdenohcglaa.Sha
set_option linter.unusedVariables false
open Go.RowKit Go.Proofs.Ytfpkgdenohcglaa.Base Go.Proofs.Ytfpkgdenohcglaa.ShaPlain Go.Proofs.YtfpkgdenohcglaaW.PrintWords Go.Proofs.YtfpkgdenohcglaaW.PrintLast Go.Proofs.YtfpkgdenohcglaaW.PrintMore

set_option maxHeartbeats 800000 in
theorem rot_2 (x : Int) (w : World) (h0 : 0 ≤ x) (h1 : x ≤ 4294967295) : Calls Try.prog 118 #[.int .u32 x, .int .i64 (-2)] w fun e w' => e = .returned (.int .u32 (rot 4 1073741824 x)) ∧ w = w' := by
  have e : bits BinOp.and IntKind.u64 (IntKind.u64.wrap (-2)) 31 = 30 := by decide +kernel
  go_enter Try.func118, Try.ntmps118
  go_wp2
  go_ret
  exact ⟨rfl, rfl⟩
set_option maxHeartbeats 800000 in
theorem right_2 (x : Int) (w : World) (h0 : 0 ≤ x) (h1 : x ≤ 4294967295) : Calls Try.prog 117 #[.int .u32 x, .int .i64 2] w fun e w' => e = .returned (.int .u32 (rot 4 1073741824 x)) ∧ w = w' := by
  go_enter Try.func117, Try.ntmps117
  go_wp2_with (go_at_call 118; refine (rot_2 x _ h0 h1).mono ?_; rintro e w' ⟨rfl, rfl⟩)
  go_ret
  exact ⟨rfl, rfl⟩
set_option maxHeartbeats 800000 in
theorem rot_6 (x : Int) (w : World) (h0 : 0 ≤ x) (h1 : x ≤ 4294967295) : Calls Try.prog 118 #[.int .u32 x, .int .i64 (-6)] w fun e w' => e = .returned (.int .u32 (rot 64 67108864 x)) ∧ w = w' := by
  have e : bits BinOp.and IntKind.u64 (IntKind.u64.wrap (-6)) 31 = 26 := by decide +kernel
  go_enter Try.func118, Try.ntmps118
  go_wp2
  go_ret
  exact ⟨rfl, rfl⟩
set_option maxHeartbeats 800000 in
theorem right_6 (x : Int) (w : World) (h0 : 0 ≤ x) (h1 : x ≤ 4294967295) : Calls Try.prog 117 #[.int .u32 x, .int .i64 6] w fun e w' => e = .returned (.int .u32 (rot 64 67108864 x)) ∧ w = w' := by
  go_enter Try.func117, Try.ntmps117
  go_wp2_with (go_at_call 118; refine (rot_6 x _ h0 h1).mono ?_; rintro e w' ⟨rfl, rfl⟩)
  go_ret
  exact ⟨rfl, rfl⟩
theorem rightq_6 (x : Int) (w : World) (m : Nat) (h : 0 ≤ x ∧ x ≤ 4294967295) : Calls Try.prog 117 #[.int .u32 x, .int .i64 6] (w.drewN m) fun e w'' => e = .returned (.int .u32 (rot 64 67108864 x)) ∧ ∃ m', w'' = w.drewN m' :=
  (right_6 x _ h.1 h.2).mono fun _ _ ⟨he, hw⟩ => ⟨he, m, hw.symm⟩
set_option maxHeartbeats 800000 in
theorem rot_7 (x : Int) (w : World) (h0 : 0 ≤ x) (h1 : x ≤ 4294967295) : Calls Try.prog 118 #[.int .u32 x, .int .i64 (-7)] w fun e w' => e = .returned (.int .u32 (rot 128 33554432 x)) ∧ w = w' := by
  have e : bits BinOp.and IntKind.u64 (IntKind.u64.wrap (-7)) 31 = 25 := by decide +kernel
  go_enter Try.func118, Try.ntmps118
  go_wp2
  go_ret
  exact ⟨rfl, rfl⟩
set_option maxHeartbeats 800000 in
theorem right_7 (x : Int) (w : World) (h0 : 0 ≤ x) (h1 : x ≤ 4294967295) : Calls Try.prog 117 #[.int .u32 x, .int .i64 7] w fun e w' => e = .returned (.int .u32 (rot 128 33554432 x)) ∧ w = w' := by
  go_enter Try.func117, Try.ntmps117
  go_wp2_with (go_at_call 118; refine (rot_7 x _ h0 h1).mono ?_; rintro e w' ⟨rfl, rfl⟩)
  go_ret
  exact ⟨rfl, rfl⟩
set_option maxHeartbeats 800000 in
theorem rot_11 (x : Int) (w : World) (h0 : 0 ≤ x) (h1 : x ≤ 4294967295) : Calls Try.prog 118 #[.int .u32 x, .int .i64 (-11)] w fun e w' => e = .returned (.int .u32 (rot 2048 2097152 x)) ∧ w = w' := by
  have e : bits BinOp.and IntKind.u64 (IntKind.u64.wrap (-11)) 31 = 21 := by decide +kernel
  go_enter Try.func118, Try.ntmps118
  go_wp2
  go_ret
  exact ⟨rfl, rfl⟩
set_option maxHeartbeats 800000 in
theorem right_11 (x : Int) (w : World) (h0 : 0 ≤ x) (h1 : x ≤ 4294967295) : Calls Try.prog 117 #[.int .u32 x, .int .i64 11] w fun e w' => e = .returned (.int .u32 (rot 2048 2097152 x)) ∧ w = w' := by
  go_enter Try.func117, Try.ntmps117
  go_wp2_with (go_at_call 118; refine (rot_11 x _ h0 h1).mono ?_; rintro e w' ⟨rfl, rfl⟩)
  go_ret
  exact ⟨rfl, rfl⟩
theorem rightq_11 (x : Int) (w : World) (m : Nat) (h : 0 ≤ x ∧ x ≤ 4294967295) : Calls Try.prog 117 #[.int .u32 x, .int .i64 11] (w.drewN m) fun e w'' => e = .returned (.int .u32 (rot 2048 2097152 x)) ∧ ∃ m', w'' = w.drewN m' :=
  (right_11 x _ h.1 h.2).mono fun _ _ ⟨he, hw⟩ => ⟨he, m, hw.symm⟩
set_option maxHeartbeats 800000 in
theorem rot_13 (x : Int) (w : World) (h0 : 0 ≤ x) (h1 : x ≤ 4294967295) : Calls Try.prog 118 #[.int .u32 x, .int .i64 (-13)] w fun e w' => e = .returned (.int .u32 (rot 8192 524288 x)) ∧ w = w' := by
  have e : bits BinOp.and IntKind.u64 (IntKind.u64.wrap (-13)) 31 = 19 := by decide +kernel
  go_enter Try.func118, Try.ntmps118
  go_wp2
  go_ret
  exact ⟨rfl, rfl⟩
set_option maxHeartbeats 800000 in
theorem right_13 (x : Int) (w : World) (h0 : 0 ≤ x) (h1 : x ≤ 4294967295) : Calls Try.prog 117 #[.int .u32 x, .int .i64 13] w fun e w' => e = .returned (.int .u32 (rot 8192 524288 x)) ∧ w = w' := by
  go_enter Try.func117, Try.ntmps117
  go_wp2_with (go_at_call 118; refine (rot_13 x _ h0 h1).mono ?_; rintro e w' ⟨rfl, rfl⟩)
  go_ret
  exact ⟨rfl, rfl⟩
set_option maxHeartbeats 800000 in
theorem rot_17 (x : Int) (w : World) (h0 : 0 ≤ x) (h1 : x ≤ 4294967295) : Calls Try.prog 118 #[.int .u32 x, .int .i64 (-17)] w fun e w' => e = .returned (.int .u32 (rot 131072 32768 x)) ∧ w = w' := by
  have e : bits BinOp.and IntKind.u64 (IntKind.u64.wrap (-17)) 31 = 15 := by decide +kernel
  go_enter Try.func118, Try.ntmps118
  go_wp2
  go_ret
  exact ⟨rfl, rfl⟩
set_option maxHeartbeats 800000 in
theorem right_17 (x : Int) (w : World) (h0 : 0 ≤ x) (h1 : x ≤ 4294967295) : Calls Try.prog 117 #[.int .u32 x, .int .i64 17] w fun e w' => e = .returned (.int .u32 (rot 131072 32768 x)) ∧ w = w' := by
  go_enter Try.func117, Try.ntmps117
  go_wp2_with (go_at_call 118; refine (rot_17 x _ h0 h1).mono ?_; rintro e w' ⟨rfl, rfl⟩)
  go_ret
  exact ⟨rfl, rfl⟩
set_option maxHeartbeats 800000 in
theorem rot_18 (x : Int) (w : World) (h0 : 0 ≤ x) (h1 : x ≤ 4294967295) : Calls Try.prog 118 #[.int .u32 x, .int .i64 (-18)] w fun e w' => e = .returned (.int .u32 (rot 262144 16384 x)) ∧ w = w' := by
  have e : bits BinOp.and IntKind.u64 (IntKind.u64.wrap (-18)) 31 = 14 := by decide +kernel
  go_enter Try.func118, Try.ntmps118
  go_wp2
  go_ret
  exact ⟨rfl, rfl⟩
set_option maxHeartbeats 800000 in
theorem right_18 (x : Int) (w : World) (h0 : 0 ≤ x) (h1 : x ≤ 4294967295) : Calls Try.prog 117 #[.int .u32 x, .int .i64 18] w fun e w' => e = .returned (.int .u32 (rot 262144 16384 x)) ∧ w = w' := by
  go_enter Try.func117, Try.ntmps117
  go_wp2_with (go_at_call 118; refine (rot_18 x _ h0 h1).mono ?_; rintro e w' ⟨rfl, rfl⟩)
  go_ret
  exact ⟨rfl, rfl⟩
set_option maxHeartbeats 800000 in
theorem rot_19 (x : Int) (w : World) (h0 : 0 ≤ x) (h1 : x ≤ 4294967295) : Calls Try.prog 118 #[.int .u32 x, .int .i64 (-19)] w fun e w' => e = .returned (.int .u32 (rot 524288 8192 x)) ∧ w = w' := by
  have e : bits BinOp.and IntKind.u64 (IntKind.u64.wrap (-19)) 31 = 13 := by decide +kernel
  go_enter Try.func118, Try.ntmps118
  go_wp2
  go_ret
  exact ⟨rfl, rfl⟩
set_option maxHeartbeats 800000 in
theorem right_19 (x : Int) (w : World) (h0 : 0 ≤ x) (h1 : x ≤ 4294967295) : Calls Try.prog 117 #[.int .u32 x, .int .i64 19] w fun e w' => e = .returned (.int .u32 (rot 524288 8192 x)) ∧ w = w' := by
  go_enter Try.func117, Try.ntmps117
  go_wp2_with (go_at_call 118; refine (rot_19 x _ h0 h1).mono ?_; rintro e w' ⟨rfl, rfl⟩)
  go_ret
  exact ⟨rfl, rfl⟩
set_option maxHeartbeats 800000 in
theorem rot_22 (x : Int) (w : World) (h0 : 0 ≤ x) (h1 : x ≤ 4294967295) : Calls Try.prog 118 #[.int .u32 x, .int .i64 (-22)] w fun e w' => e = .returned (.int .u32 (rot 4194304 1024 x)) ∧ w = w' := by
  have e : bits BinOp.and IntKind.u64 (IntKind.u64.wrap (-22)) 31 = 10 := by decide +kernel
  go_enter Try.func118, Try.ntmps118
  go_wp2
  go_ret
  exact ⟨rfl, rfl⟩
set_option maxHeartbeats 800000 in
theorem right_22 (x : Int) (w : World) (h0 : 0 ≤ x) (h1 : x ≤ 4294967295) : Calls Try.prog 117 #[.int .u32 x, .int .i64 22] w fun e w' => e = .returned (.int .u32 (rot 4194304 1024 x)) ∧ w = w' := by
  go_enter Try.func117, Try.ntmps117
  go_wp2_with (go_at_call 118; refine (rot_22 x _ h0 h1).mono ?_; rintro e w' ⟨rfl, rfl⟩)
  go_ret
  exact ⟨rfl, rfl⟩
set_option maxHeartbeats 800000 in
theorem rot_25 (x : Int) (w : World) (h0 : 0 ≤ x) (h1 : x ≤ 4294967295) : Calls Try.prog 118 #[.int .u32 x, .int .i64 (-25)] w fun e w' => e = .returned (.int .u32 (rot 33554432 128 x)) ∧ w = w' := by
  have e : bits BinOp.and IntKind.u64 (IntKind.u64.wrap (-25)) 31 = 7 := by decide +kernel
  go_enter Try.func118, Try.ntmps118
  go_wp2
  go_ret
  exact ⟨rfl, rfl⟩
set_option maxHeartbeats 800000 in
theorem right_25 (x : Int) (w : World) (h0 : 0 ≤ x) (h1 : x ≤ 4294967295) : Calls Try.prog 117 #[.int .u32 x, .int .i64 25] w fun e w' => e = .returned (.int .u32 (rot 33554432 128 x)) ∧ w = w' := by
  go_enter Try.func117, Try.ntmps117
  go_wp2_with (go_at_call 118; refine (rot_25 x _ h0 h1).mono ?_; rintro e w' ⟨rfl, rfl⟩)
  go_ret
  exact ⟨rfl, rfl⟩
theorem rightq_25 (x : Int) (w : World) (m : Nat) (h : 0 ≤ x ∧ x ≤ 4294967295) : Calls Try.prog 117 #[.int .u32 x, .int .i64 25] (w.drewN m) fun e w'' => e = .returned (.int .u32 (rot 33554432 128 x)) ∧ ∃ m', w'' = w.drewN m' :=
  (right_25 x _ h.1 h.2).mono fun _ _ ⟨he, hw⟩ => ⟨he, m, hw.symm⟩
end Go.Proofs.Ytfpkgdenohcglaa.Sha
/- The words of a block: sha.spread walked. -/
namespace Go.Proofs.Ytfpkgdenohcglaa.Sha
set_option linter.unusedVariables false
open Go.RowKit Go.Proofs.Ytfpkgdenohcglaa.Base Go.Proofs.Ytfpkgdenohcglaa.ShaPlain Go.Proofs.YtfpkgdenohcglaaW.PrintWords Go.Proofs.YtfpkgdenohcglaaW.PrintLast Go.Proofs.YtfpkgdenohcglaaW.PrintMore
/-- The bytes of a block that lies within a block of memory. -/
def Blk (w : World) (g o : Nat) (b : List Int) : Prop := ∀ j, j < 64 → w.cell? ⟨g, o + j, none⟩ = some (.int .u8 (b.getD j 0))
theorem Blk.below {w w1 : World} {g o : Nat} {b : List Int} (h : Blk w g o b) (hb : Below w.heap.size w w1) : Blk w1 g o b := fun j hj => (hb.cell (World.block_lt_of_cell? _ _ (h j hj))).trans (h j hj)
theorem nums_set (k : IntKind) (xs : List Int) (i : Nat) (x : Int) : (nums k xs).toArray.setIfInBounds i (.int k x) = (nums k (xs.set i x)).toArray := by
  simp [nums]
/-- Words in a block of their own. -/
def Words (w : World) (g T : Nat) (ws : List Int) : Prop := w.heap[g]? = some (.cells (nums .u32 ws).toArray T (0, 0))
theorem Words.cell {w : World} {g T : Nat} {ws : List Int} (h : Words w g T ws) (i : Nat) (hi : i < ws.length) : w.cell? ⟨g, i, none⟩ = some (.int .u32 (ws.getD i 0)) := by
  rw [blk_cell h i]
  simp [nums, List.getElem?_eq_getElem hi, List.getD_eq_getElem?_getD]
theorem Words.free {w : World} {g T : Nat} {ws : List Int} (h : Words w g T ws) (i : Nat) : w.frozen? ⟨g, i, none⟩ = false := blk_frozen h i
theorem Words.set {w : World} {g T : Nat} {ws : List Int} (h : Words w g T ws) (i : Nat) (x : Int) : Words (w.setCell ⟨g, i, none⟩ (.int .u32 x)) g T (ws.set i x) := by
  have := blk_set h i (.int .u32 x)
  rw [nums_set] at this
  exact this
theorem Words.lt {w : World} {g T : Nat} {ws : List Int} (h : Words w g T ws) : g < w.heap.size := blk_lt h
theorem word4_eq {a b c d : Int} (ha : 0 ≤ a ∧ a ≤ 255) (hb : 0 ≤ b ∧ b ≤ 255) (hc : 0 ≤ c ∧ c ≤ 255) (hd : 0 ≤ d ∧ d ≤ 255) :
    bits .or .u32 (bits .or .u32 (bits .or .u32 (IntKind.u32.wrap (IntKind.u32.wrap a * 16777216)) (IntKind.u32.wrap (IntKind.u32.wrap b * 65536))) (IntKind.u32.wrap (IntKind.u32.wrap c * 256))) (IntKind.u32.wrap d) = word4 a b c d := by
  unfold word4
  simp only [IntKind.wrap_u32]
  rw [show a % 4294967296 = a from by omega, show (b % 4294967296 * 65536) % 4294967296 = b * 65536 from by omega, show (c % 4294967296 * 256) % 4294967296 = c * 256 from by omega, show d % 4294967296 = d from by omega]
def SpreadInv (w : World) (b : List Int) (k : Nat) (wr : World) : Prop := Words wr w.heap.size 119 (fill b k) ∧ Below w.heap.size w wr
theorem SpreadInv.next {w : World} {b : List Int} {k : Nat} {wr : World} (h : SpreadInv w b k wr) {v : Int} (hv : v = ShaPlain.next b (fill b k) k) : SpreadInv w b (k + 1) (wr.drew.setCell ⟨w.heap.size, k, none⟩ (.int .u32 v)) := by
  subst hv
  exact ⟨Words.set (w := wr.drew) h.1 k _, below_set (below_drew1 h.2) (Nat.le_refl _)⟩
theorem zeros_new (w : World) : (w.alloc (.cells #[.int .u32 0, .int .u32 0, .int .u32 0, .int .u32 0, .int .u32 0, .int .u32 0, .int .u32 0, .int .u32 0, .int .u32 0, .int .u32 0, .int .u32 0, .int .u32 0, .int .u32 0, .int .u32 0, .int .u32 0, .int .u32 0, .int .u32 0, .int .u32 0, .int .u32 0, .int .u32 0, .int .u32 0, .int .u32 0, .int .u32 0, .int .u32 0, .int .u32 0, .int .u32 0, .int .u32 0, .int .u32 0, .int .u32 0, .int .u32 0, .int .u32 0, .int .u32 0, .int .u32 0, .int .u32 0, .int .u32 0, .int .u32 0, .int .u32 0, .int .u32 0, .int .u32 0, .int .u32 0, .int .u32 0, .int .u32 0, .int .u32 0, .int .u32 0, .int .u32 0, .int .u32 0, .int .u32 0, .int .u32 0, .int .u32 0, .int .u32 0, .int .u32 0, .int .u32 0, .int .u32 0, .int .u32 0, .int .u32 0, .int .u32 0, .int .u32 0, .int .u32 0, .int .u32 0, .int .u32 0, .int .u32 0, .int .u32 0, .int .u32 0, .int .u32 0] 119)).heap[w.heap.size]? = some (.cells (nums .u32 (List.replicate 64 0)).toArray 119 (0, 0)) := blk_new _ _
set_option maxHeartbeats 4000000 in
set_option maxRecDepth 100000 in
theorem spread_c (g o : Nat) (b : List Int) (w : World) (hb : Blk w g o b) (hu : ∀ j, j < 64 → 0 ≤ b.getD j 0 ∧ b.getD j 0 ≤ 255) : Calls Try.prog 116 #[.pointer (some ⟨g, o, none⟩)] w fun e w' => ∃ p : Nat, e = .returned (.pointer (some ⟨p, 0, none⟩)) ∧ w.heap.size ≤ p ∧ Words w' p 119 (fill b 64) ∧ Below w.heap.size w w' := by
  have HB := Aside0.mk hb
  have HU := Aside0.mk hu
  clear hb hu
  have H0 := Aside0.mk (show SpreadInv w b 0 (w.alloc (.cells #[.int .u32 0, .int .u32 0, .int .u32 0, .int .u32 0, .int .u32 0, .int .u32 0, .int .u32 0, .int .u32 0, .int .u32 0, .int .u32 0, .int .u32 0, .int .u32 0, .int .u32 0, .int .u32 0, .int .u32 0, .int .u32 0, .int .u32 0, .int .u32 0, .int .u32 0, .int .u32 0, .int .u32 0, .int .u32 0, .int .u32 0, .int .u32 0, .int .u32 0, .int .u32 0, .int .u32 0, .int .u32 0, .int .u32 0, .int .u32 0, .int .u32 0, .int .u32 0, .int .u32 0, .int .u32 0, .int .u32 0, .int .u32 0, .int .u32 0, .int .u32 0, .int .u32 0, .int .u32 0, .int .u32 0, .int .u32 0, .int .u32 0, .int .u32 0, .int .u32 0, .int .u32 0, .int .u32 0, .int .u32 0, .int .u32 0, .int .u32 0, .int .u32 0, .int .u32 0, .int .u32 0, .int .u32 0, .int .u32 0, .int .u32 0, .int .u32 0, .int .u32 0, .int .u32 0, .int .u32 0, .int .u32 0, .int .u32 0, .int .u32 0, .int .u32 0] 119)) from ⟨zeros_new w, below_alloc (Below.refl _ _) _⟩)
  go_enter Try.func116, Try.ntmps116
  go_wp2
  go_loopw [4, 10] (fun _ i wr => ∃ k : Nat, k ≤ 16 ∧ i = .int .i64 k ∧ SpreadInv w b k wr) (fun _ i _ => 16 - (intOf i).toNat)
  case atStart => exact ⟨0, by omega, rfl, H0.out⟩
  case round =>
    obtain ⟨k, hk, rfl, hinv⟩ := hrel
    have HI := Aside0.mk hinv
    by_cases hlt : k < 16
    · have hc := HB.out.below hinv.2
      have hf : wr.drew.frozen? ⟨w.heap.size, k, none⟩ = false := hinv.1.free k
      have hd : wr.drew.cell? ⟨w.heap.size, k, none⟩ = some (.int .u32 ((fill b k).getD k 0)) := hinv.1.cell k (by rw [fill_len]; omega)
      obtain ⟨x0, hx0⟩ : ∃ x, b.getD (4 * k) 0 = x := ⟨_, rfl⟩
      obtain ⟨x1, hx1⟩ : ∃ x, b.getD (4 * k + 1) 0 = x := ⟨_, rfl⟩
      obtain ⟨x2, hx2⟩ : ∃ x, b.getD (4 * k + 2) 0 = x := ⟨_, rfl⟩
      obtain ⟨x3, hx3⟩ : ∃ x, b.getD (4 * k + 3) 0 = x := ⟨_, rfl⟩
      obtain ⟨old, hold⟩ : ∃ x, (fill b k).getD k 0 = x := ⟨_, rfl⟩
      have c0 := hc (4 * k) (by omega)
      have c1 := hc (4 * k + 1) (by omega)
      have c2 := hc (4 * k + 2) (by omega)
      have c3 := hc (4 * k + 3) (by omega)
      have HV := Aside0.mk (show bits .or .u32 (bits .or .u32 (bits .or .u32 (IntKind.u32.wrap (IntKind.u32.wrap x0 * 16777216)) (IntKind.u32.wrap (IntKind.u32.wrap x1 * 65536))) (IntKind.u32.wrap (IntKind.u32.wrap x2 * 256))) (IntKind.u32.wrap x3) = ShaPlain.next b (fill b k) k by
        rw [word4_eq (hx0 ▸ HU.out _ (by omega)) (hx1 ▸ HU.out _ (by omega)) (hx2 ▸ HU.out _ (by omega)) (hx3 ▸ HU.out _ (by omega)), ShaPlain.next, if_pos hlt, hx0, hx1, hx2, hx3])
      rw [hx0] at c0
      rw [hx1] at c1
      rw [hx2] at c2
      rw [hx3] at c3
      rw [hold] at hd
      clear hc hx0 hx1 hx2 hx3 hold hinv
      have e0 : IntKind.i64.wrap (4 * (k : Int)) = 4 * (k : Int) := IntWalk.i64_in _ (by omega)
      have t0 : (4 * (k : Int)).toNat = 4 * k := by omega
      have g0 : (0 : Int) ≤ 4 * (k : Int) := by omega
      have f0 : 4 * (k : Int) < 64 := by omega
      have e1 : IntKind.i64.wrap (4 * (k : Int) + 1) = 4 * (k : Int) + 1 := IntWalk.i64_in _ (by omega)
      have t1 : (4 * (k : Int) + 1).toNat = 4 * k + 1 := by omega
      have g1 : (0 : Int) ≤ 4 * (k : Int) + 1 := by omega
      have f1 : 4 * (k : Int) + 1 < 64 := by omega
      have e2 : IntKind.i64.wrap (4 * (k : Int) + 2) = 4 * (k : Int) + 2 := IntWalk.i64_in _ (by omega)
      have t2 : (4 * (k : Int) + 2).toNat = 4 * k + 2 := by omega
      have g2 : (0 : Int) ≤ 4 * (k : Int) + 2 := by omega
      have f2 : 4 * (k : Int) + 2 < 64 := by omega
      have e3 : IntKind.i64.wrap (4 * (k : Int) + 3) = 4 * (k : Int) + 3 := IntWalk.i64_in _ (by omega)
      have t3 : (4 * (k : Int) + 3).toNat = 4 * k + 3 := by omega
      have g3 : (0 : Int) ≤ 4 * (k : Int) + 3 := by omega
      have f3 : 4 * (k : Int) + 3 < 64 := by omega
      have g4 : (0 : Int) ≤ (k : Int) := by omega
      have f4 : (k : Int) < 64 := by omega
      go_wp2
      go_still_tail 39, (by kernel_rfl)
      change wpList _ _ _ _ _ wr.drew
      obtain ⟨w2, hw2⟩ : ∃ w2, wr.drew = w2 := ⟨_, rfl⟩
      have HW := Aside0.mk hw2
      rw [hw2] at hf hd ⊢
      clear hw2 e0 e1 e2 e3 t0 t1 t2 t3 g0 g1 g2 g3 f0 f1 f2 f3
      go_wp2
      go_roundw
      case rel => exact ⟨k + 1, by omega, by go_num, by rw [← HW.out]; exact HI.out.next HV.out⟩
      case measure => simp [intOf]; omega
    · have HK := Aside0.mk (show k = 16 by omega)
      have hge : 16 ≤ k := by omega
      clear hinv hlt hk
      go_wp2
      clear hge
      go_loopw [5, 6, 7, 8, 9] (fun i _ _ _ _ wr => ∃ k : Nat, 16 ≤ k ∧ k ≤ 64 ∧ i = .int .i64 k ∧ SpreadInv w b k wr) (fun i _ _ _ _ _ => 64 - (intOf i).toNat)
      case atStart => exact ⟨16, by omega, by omega, rfl, by have h := HI.out; rwa [HK.out] at h⟩
      case round =>
        clear HI HK
        obtain ⟨k, hk0, hk, rfl, hinv⟩ := hrel
        have HI := Aside0.mk hinv
        by_cases hlt : k < 64
        · have hU := fun j => (fill_u32 b k).at j
          have hcw : ∀ j, j < 64 → wr.cell? ⟨w.heap.size, j, none⟩ = some (.int .u32 ((fill b k).getD j 0)) := fun j hj => hinv.1.cell j (by rw [fill_len]; omega)
          have hd := hcw k (by omega)
          have c15 := hcw (k - 15) (by omega)
          have c2 := hcw (k - 2) (by omega)
          have c16 := hcw (k - 16) (by omega)
          have c7 := hcw (k - 7) (by omega)
          obtain ⟨x15, hx15⟩ : ∃ x, (fill b k).getD (k - 15) 0 = x := ⟨_, rfl⟩
          obtain ⟨x2, hx2⟩ : ∃ x, (fill b k).getD (k - 2) 0 = x := ⟨_, rfl⟩
          obtain ⟨x16, hx16⟩ : ∃ x, (fill b k).getD (k - 16) 0 = x := ⟨_, rfl⟩
          obtain ⟨x7, hx7⟩ : ∃ x, (fill b k).getD (k - 7) 0 = x := ⟨_, rfl⟩
          obtain ⟨old, hold⟩ : ∃ x, (fill b k).getD k 0 = x := ⟨_, rfl⟩
          have r15 := hU (k - 15)
          have r2 := hU (k - 2)
          rw [hx15] at c15 r15
          rw [hx2] at c2 r2
          rw [hx16] at c16
          rw [hx7] at c7
          rw [hold] at hd
          have HR15 := Aside0.mk r15
          have HR2 := Aside0.mk r2
          have HV := Aside0.mk (show (x16 + low x15 + x7 + high x2) % 4294967296 = ShaPlain.next b (fill b k) k by
            rw [ShaPlain.next, if_neg (by omega), hx15, hx2, hx16, hx7, m32])
          clear hcw hU hx15 hx2 hx16 hx7 hold hinv r15 r2
          have e2 : IntKind.i64.wrap ((k : Int) - 2) = (k : Int) - 2 := IntWalk.i64_in _ (by omega)
          have t2 : ((k : Int) - 2).toNat = k - 2 := by omega
          have g2 : (0 : Int) ≤ (k : Int) - 2 := by omega
          have f2 : (k : Int) - 2 < 64 := by omega
          have e7 : IntKind.i64.wrap ((k : Int) - 7) = (k : Int) - 7 := IntWalk.i64_in _ (by omega)
          have t7 : ((k : Int) - 7).toNat = k - 7 := by omega
          have g7 : (0 : Int) ≤ (k : Int) - 7 := by omega
          have f7 : (k : Int) - 7 < 64 := by omega
          have e15 : IntKind.i64.wrap ((k : Int) - 15) = (k : Int) - 15 := IntWalk.i64_in _ (by omega)
          have t15 : ((k : Int) - 15).toNat = k - 15 := by omega
          have g15 : (0 : Int) ≤ (k : Int) - 15 := by omega
          have f15 : (k : Int) - 15 < 64 := by omega
          have e16 : IntKind.i64.wrap ((k : Int) - 16) = (k : Int) - 16 := IntWalk.i64_in _ (by omega)
          have t16 : ((k : Int) - 16).toNat = k - 16 := by omega
          have g16 : (0 : Int) ≤ (k : Int) - 16 := by omega
          have f16 : (k : Int) - 16 < 64 := by omega
          have g4 : (0 : Int) ≤ (k : Int) := by omega
          have f4 : (k : Int) < 64 := by omega
          go_wp2
          go_quiet (fail)
          have HI2 := Aside0.mk (show SpreadInv w b k (wr.drewN nq) from ⟨HI.out.1, pw_below_drewN HI.out.2 nq⟩)
          have hf' : (wr.drewN nq).drew.frozen? ⟨w.heap.size, k, none⟩ = false := HI.out.1.free k
          have hd' : (wr.drewN nq).drew.cell? ⟨w.heap.size, k, none⟩ = some (.int .u32 old) := hd
          have c16' : (wr.drewN nq).cell? ⟨w.heap.size, k - 16, none⟩ = some (.int .u32 x16) := c16
          have c7' : (wr.drewN nq).cell? ⟨w.heap.size, k - 7, none⟩ = some (.int .u32 x7) := c7
          clear c15 c2 c16 c7 hd HI
          revert HI2 hf' hd' c16' c7'
          generalize wr.drewN nq = wq
          intro HI2 hf hd c16 c7
          go_wp2_with (fail)
          refine (right_7 x15 _ HR15.out.1 HR15.out.2).mono ?_
          rintro e w' ⟨rfl, rfl⟩
          go_wp2_with (fail)
          refine (right_18 x15 _ HR15.out.1 HR15.out.2).mono ?_
          rintro e w' ⟨rfl, rfl⟩
          go_wp2_with (fail)
          refine (right_17 x2 _ HR2.out.1 HR2.out.2).mono ?_
          rintro e w' ⟨rfl, rfl⟩
          go_wp2_with (fail)
          refine (right_19 x2 _ HR2.out.1 HR2.out.2).mono ?_
          rintro e w' ⟨rfl, rfl⟩
          go_wp2_with (fail)
          have h16 : (16 : Int) ≤ (k : Int) := by omega
          have l16 : (k : Int) < 64 + 16 := by omega
          have h7 : (7 : Int) ≤ (k : Int) := by omega
          have l7 : (k : Int) < 64 + 7 := by omega
          go_still_tail 15, (by kernel_rfl)
          change wpList _ _ _ _ _ wq.drew
          obtain ⟨w2, hw2⟩ : ∃ w2, wq.drew = w2 := ⟨_, rfl⟩
          have HW := Aside0.mk hw2
          rw [hw2] at hf hd ⊢
          clear hw2 e2 e7 e15 e16 t2 t7 t15 t16 g2 g7 g15 g16 f2 f7 f15 f16
          go_wp2
          go_roundw
          case rel => exact ⟨k + 1, by omega, by omega, by go_num, by rw [← HW.out]; exact HI2.out.next HV.out⟩
          case measure => simp [intOf]; omega
        · have hk64 : k = 64 := by omega
          subst hk64
          clear hinv hlt hk hk0
          go_wp2
          go_ret
          exact ⟨_, rfl, Nat.le_refl _, HI.out.1, HI.out.2⟩
end Go.Proofs.Ytfpkgdenohcglaa.Sha
/- A block is taken in: sha's mix walked. -/
namespace Go.Proofs.Ytfpkgdenohcglaa.Sha
set_option linter.unusedVariables false
open Go.RowKit Go.Proofs.Ytfpkgdenohcglaa.Base Go.Proofs.Ytfpkgdenohcglaa.ShaPlain Go.Proofs.YtfpkgdenohcglaaW.PrintWords Go.Proofs.YtfpkgdenohcglaaW.PrintLast Go.Proofs.YtfpkgdenohcglaaW.PrintMore
/-- The cells of a Hash. -/
def hashC (made : Bool) (s r : List Int) (n : Int) : List Value := .bool made :: (nums .u32 s ++ (nums .u8 r ++ [.int .u64 n]))
/-- A Hash at block g. -/
def Hsh (w0 w : World) (g : Nat) (made : Bool) (s r : List Int) (n : Int) : Prop :=
  w0.heap.size ≤ g ∧ w.heap[g]? = some (.cells (hashC made s r n).toArray 136 (0, 0)) ∧ s.length = 8 ∧ r.length = 64 ∧ U32 s ∧ (∀ x ∈ r, 0 ≤ x ∧ x ≤ 255)
theorem hashC_state {made : Bool} {s r : List Int} {n : Int} (i : Nat) (hi : i < s.length) : (hashC made s r n)[1 + i]? = some (.int .u32 (s.getD i 0)) := by
  unfold hashC
  rw [Nat.add_comm, List.getElem?_cons_succ, List.getElem?_append_left (by simpa [nums] using hi)]
  simp [nums, List.getElem?_eq_getElem hi, List.getD_eq_getElem?_getD]
theorem hashC_rest {made : Bool} {s r : List Int} {n : Int} (hs : s.length = 8) (i : Nat) (hi : i < r.length) : (hashC made s r n)[9 + i]? = some (.int .u8 (r.getD i 0)) := by
  unfold hashC
  rw [show 9 + i = (8 + i) + 1 from by omega, List.getElem?_cons_succ, List.getElem?_append_right (by simp [nums, hs]), List.getElem?_append_left (by simp [nums, hs]; omega)]
  simp [nums, hs, List.getElem?_eq_getElem hi, List.getD_eq_getElem?_getD]
theorem hashC_n {made : Bool} {s r : List Int} {n : Int} (hs : s.length = 8) (hr : r.length = 64) : (hashC made s r n)[73]? = some (.int .u64 n) := by
  unfold hashC
  rw [List.getElem?_cons_succ, List.getElem?_append_right (by simp [nums, hs]), List.getElem?_append_right (by simp [nums, hs, hr])]
  simp [nums, hs, hr]
theorem hashC_len {made : Bool} {s r : List Int} {n : Int} (hs : s.length = 8) (hr : r.length = 64) : (hashC made s r n).length = 74 := by
  simp [hashC, nums, hs, hr]
theorem hashC_set_state {made : Bool} {s r : List Int} {n : Int} (i : Nat) (x : Int) (hi : i < s.length) : (hashC made s r n).set (1 + i) (.int .u32 x) = hashC made (s.set i x) r n := by
  unfold hashC
  rw [Nat.add_comm, List.set_cons_succ, List.set_append_left _ _ (by simpa [nums] using hi)]
  simp [nums]
theorem hashC_set_rest {made : Bool} {s r : List Int} {n : Int} (hs : s.length = 8) (i : Nat) (x : Int) (hi : i < r.length) : (hashC made s r n).set (9 + i) (.int .u8 x) = hashC made s (r.set i x) n := by
  unfold hashC
  rw [show 9 + i = (8 + i) + 1 from by omega, List.set_cons_succ, List.set_append_right _ _ (by simp [nums, hs]), List.set_append_left _ _ (by simp [nums, hs]; omega)]
  simp [nums, hs]
theorem hashC_set_n {made : Bool} {s r : List Int} {n : Int} (hs : s.length = 8) (hr : r.length = 64) (x : Int) : (hashC made s r n).set 73 (.int .u64 x) = hashC made s r x := by
  unfold hashC
  rw [List.set_cons_succ, List.set_append_right _ _ (by simp [nums, hs]), List.set_append_right _ _ (by simp [nums, hs, hr])]
  simp [nums, hs, hr]
theorem toArray_set (l : List Value) (i : Nat) (v : Value) : l.toArray.setIfInBounds i v = (l.set i v).toArray := by simp
namespace Hsh
variable {w0 w : World} {g : Nat} {made : Bool} {s r : List Int} {n : Int}
theorem cell (h : Hsh w0 w g made s r n) (j : Nat) : w.cell? ⟨g, j, none⟩ = (hashC made s r n)[j]? := by
  rw [blk_cell h.2.1 j]
  simp
theorem made_ (h : Hsh w0 w g made s r n) : w.cell? ⟨g, 0, none⟩ = some (.bool made) := h.cell 0
theorem state (h : Hsh w0 w g made s r n) (i : Nat) (hi : i < 8) : w.cell? ⟨g, 1 + i, none⟩ = some (.int .u32 (s.getD i 0)) := by
  rw [h.cell, hashC_state i (by rw [h.2.2.1]; omega)]
theorem rest (h : Hsh w0 w g made s r n) : Blk w g 9 r := fun j hj => by
  rw [h.cell, hashC_rest h.2.2.1 j (by rw [h.2.2.2.1]; omega)]
theorem n_ (h : Hsh w0 w g made s r n) : w.cell? ⟨g, 73, none⟩ = some (.int .u64 n) := by
  rw [h.cell, hashC_n h.2.2.1 h.2.2.2.1]
theorem free (h : Hsh w0 w g made s r n) (j : Nat) : w.frozen? ⟨g, j, none⟩ = false := blk_frozen h.2.1 j
theorem lt (h : Hsh w0 w g made s r n) : g < w.heap.size := blk_lt h.2.1
theorem below {w1 : World} (h : Hsh w0 w g made s r n) (hb : Below w.heap.size w w1) : Hsh w0 w1 g made s r n := ⟨h.1, (hb.block g (blk_lt h.2.1)).trans h.2.1, h.2.2⟩
theorem keep {w1 : World} {g' : Nat} (h : Hsh w0 w g made s r n) (hk : KeepBut w w1 g' none) (hne : g ≠ g') : Hsh w0 w1 g made s r n := ⟨h.1, hk.blk h.2.1 hne (by simp), h.2.2⟩
theorem set_state (h : Hsh w0 w g made s r n) (i : Nat) (x : Int) (hi : i < 8) (hx : 0 ≤ x ∧ x ≤ 4294967295) : Hsh w0 (w.setCell ⟨g, 1 + i, none⟩ (.int .u32 x)) g made (s.set i x) r n := by
  refine ⟨h.1, ?_, by rw [List.length_set]; exact h.2.2.1, h.2.2.2.1, h.2.2.2.2.1.set i hx, h.2.2.2.2.2⟩
  rw [blk_set h.2.1, toArray_set, hashC_set_state i x (by rw [h.2.2.1]; omega)]
theorem set_rest (h : Hsh w0 w g made s r n) (i : Nat) (x : Int) (hi : i < 64) (hx : 0 ≤ x ∧ x ≤ 255) : Hsh w0 (w.setCell ⟨g, 9 + i, none⟩ (.int .u8 x)) g made s (r.set i x) n := by
  refine ⟨h.1, ?_, h.2.2.1, by rw [List.length_set]; exact h.2.2.2.1, h.2.2.2.2.1, fun y hy => (List.mem_or_eq_of_mem_set hy).elim (h.2.2.2.2.2 y) (fun e => e ▸ hx)⟩
  rw [blk_set h.2.1, toArray_set, hashC_set_rest h.2.2.1 i x (by rw [h.2.2.2.1]; omega)]
theorem set_n (h : Hsh w0 w g made s r n) (x : Int) : Hsh w0 (w.setCell ⟨g, 73, none⟩ (.int .u64 x)) g made s r x := by
  refine ⟨h.1, ?_, h.2.2⟩
  rw [blk_set h.2.1, toArray_set, hashC_set_n h.2.2.1 h.2.2.2.1 x]
theorem byte (h : Hsh w0 w g made s r n) (j : Nat) : 0 ≤ r.getD j 0 ∧ r.getD j 0 ≤ 255 := by
  rw [List.getD_eq_getElem?_getD]
  by_cases hi : j < r.length
  · rw [List.getElem?_eq_getElem hi]; exact h.2.2.2.2.2 _ (List.getElem_mem hi)
  · rw [List.getElem?_eq_none (by omega)]; simp
end Hsh
theorem len8 {l : List Int} (h : l.length = 8) : ∃ a b c d e f g i, l = [a, b, c, d, e, f, g, i] := by
  match l, h with
  | [a, b, c, d, e, f, g, i], _ => exact ⟨a, b, c, d, e, f, g, i, rfl⟩
/-- The eight words under way, in a block of their own. -/
def MixInv (w1 : World) (v : List Int) (wr : World) : Prop := Words wr w1.heap.size 107 v ∧ Below w1.heap.size w1 wr
theorem MixInv.drewN {w1 wr : World} {v : List Int} (h : MixInv w1 v wr) (m : Nat) : MixInv w1 v (wr.drewN m) := ⟨h.1, pw_below_drewN h.2 m⟩
theorem MixInv.set {w1 wr : World} {v : List Int} (h : MixInv w1 v wr) (i : Nat) (x : Int) : MixInv w1 (v.set i x) (wr.setCell ⟨w1.heap.size, i, none⟩ (.int .u32 x)) := ⟨h.1.set i x, below_set h.2 (Nat.le_refl _)⟩
theorem info_u32 : (Try.prog.info? 106).map (·.size) = some 1 := by kernel_rfl
theorem MixInv.next {w1 w3 : World} {s ws : List Int} {k : Nat} {v0 v1 v2 v3 v4 v5 v6 X Y : Int} (h : MixInv w1 [v0, v0, v1, v2, v3, v4, v5, v6] w3) (hr : rounds s ws (k + 1) = [X, v0, v1, v2, Y, v4, v5, v6]) :
    MixInv w1 (rounds s ws (k + 1)) ((w3.setCell ⟨w1.heap.size, 0, none⟩ (.int .u32 X)).setCell ⟨w1.heap.size, 4, none⟩ (.int .u32 Y)) := by
  rw [hr]
  exact (h.set 0 X).set 4 Y
/-- The Hash under way, its first words added to. -/
def AddInv (w0 w : World) (g : Nat) (s v r : List Int) (n : Int) (j : Nat) (wx : World) : Prop :=
  Hsh w0 wx g true (List.zipWith (fun x y => m32 (x + y)) (s.take j) v ++ s.drop j) r n ∧ Below w0.heap.size w0 wx ∧ KeepBut w wx g none
theorem AddInv.next {w0 w wx : World} {g : Nat} {s v r : List Int} {n : Int} {j : Nat} (h : AddInv w0 w g s v r n j wx) (hj : j < 8) (hs : s.length = 8) (hv : v.length = 8) {X : Int} (hX : X = (s.getD j 0 + v.getD j 0) % 4294967296) :
    AddInv w0 w g s v r n (j + 1) (wx.drew.setCell ⟨g, 1 + j, none⟩ (.int .u32 X)) := by
  subst hX
  have h1 := Hsh.set_state (w := wx.drew) (w0 := w0) (g := g) (made := true) (r := r) (n := n) (s := List.zipWith (fun x y => m32 (x + y)) (s.take j) v ++ s.drop j) h.1 j ((s.getD j 0 + v.getD j 0) % 4294967296) hj (by omega)
  refine ⟨?_, below_set (below_drew1 h.2.1) h.1.1, (keep_drew h.2.2).set_ _ _⟩
  have e : (List.zipWith (fun x y => m32 (x + y)) (s.take j) v ++ s.drop j).set j ((s.getD j 0 + v.getD j 0) % 4294967296) = List.zipWith (fun x y => m32 (x + y)) (s.take (j + 1)) v ++ s.drop (j + 1) := by
    obtain ⟨s0, s1, s2, s3, s4, s5, s6, s7, rfl⟩ := len8 hs
    obtain ⟨v0, v1, v2, v3, v4, v5, v6, v7, rfl⟩ := len8 hv
    have : j = 0 ∨ j = 1 ∨ j = 2 ∨ j = 3 ∨ j = 4 ∨ j = 5 ∨ j = 6 ∨ j = 7 := by omega
    rcases this with rfl | rfl | rfl | rfl | rfl | rfl | rfl | rfl <;> rfl
  rw [e] at h1
  exact h1
theorem AddInv.cell {w0 w wx : World} {g : Nat} {s v r : List Int} {n : Int} {j : Nat} (h : AddInv w0 w g s v r n j wx) (hj : j < 8) (hs : s.length = 8) (hv : v.length = 8) : wx.cell? ⟨g, 1 + j, none⟩ = some (.int .u32 (s.getD j 0)) := by
  rw [h.1.state j hj]
  congr 2
  obtain ⟨s0, s1, s2, s3, s4, s5, s6, s7, rfl⟩ := len8 hs
  obtain ⟨v0, v1, v2, v3, v4, v5, v6, v7, rfl⟩ := len8 hv
  have : j = 0 ∨ j = 1 ∨ j = 2 ∨ j = 3 ∨ j = 4 ∨ j = 5 ∨ j = 6 ∨ j = 7 := by omega
  rcases this with rfl | rfl | rfl | rfl | rfl | rfl | rfl | rfl <;> rfl
set_option maxHeartbeats 8000000 in
set_option maxRecDepth 100000 in
theorem mix_c (w0 w : World) (g kb : Nat) (s r : List Int) (n : Int) (h : Hsh w0 w g true s r n) (hB : Below w0.heap.size w0 w) (hk : Words w kb 119 keys) (hne : kb ≠ g) :
    Calls Try.prog 115 #[.pointer (some ⟨g, 0, none⟩), .pointer (some ⟨kb, 0, none⟩)] w fun e w' => e = .returned (.tuple #[]) ∧ Hsh w0 w' g true (press s r) r n ∧ Below w0.heap.size w0 w' ∧ KeepBut w w' g none := by
  obtain ⟨s0, s1, s2, s3, s4, s5, s6, s7, hs⟩ := len8 h.2.2.1
  have HS := Aside0.mk hs
  have HI := Aside0.mk h
  have HB := Aside0.mk hB
  have HK := Aside0.mk hk
  have HNE := Aside0.mk hne
  clear h hB hk hne hs
  go_enter Try.func115, Try.ntmps115
  go_wp2_with (fail)
  refine (spread_c g 9 r w HI.out.rest (fun j _ => HI.out.byte j)).mono ?_
  rintro e w1 ⟨p, rfl, hp, hws, hb⟩
  obtain ⟨ws, hwse⟩ : ∃ ws, fill r 64 = ws := ⟨_, rfl⟩
  rw [hwse] at hws
  have HWE := Aside0.mk hwse
  have HP := Aside0.mk hp
  have HW := Aside0.mk hws
  have HI1 := Aside0.mk (HI.out.below hb)
  have HB1 := Aside0.mk hb
  have HK1 := Aside0.mk (show Words w1 kb 119 keys from (hb.block kb HK.out.lt).trans HK.out)
  have hst := HI1.out.state
  rw [HS.out] at hst
  have z0 : w1.cell? ⟨g, 1, none⟩ = some (.int .u32 s0) := hst 0 (by omega)
  have z1 : w1.cell? ⟨g, 2, none⟩ = some (.int .u32 s1) := hst 1 (by omega)
  have z2 : w1.cell? ⟨g, 3, none⟩ = some (.int .u32 s2) := hst 2 (by omega)
  have z3 : w1.cell? ⟨g, 4, none⟩ = some (.int .u32 s3) := hst 3 (by omega)
  have z4 : w1.cell? ⟨g, 5, none⟩ = some (.int .u32 s4) := hst 4 (by omega)
  have z5 : w1.cell? ⟨g, 6, none⟩ = some (.int .u32 s5) := hst 5 (by omega)
  have z6 : w1.cell? ⟨g, 7, none⟩ = some (.int .u32 s6) := hst 6 (by omega)
  have z7 : w1.cell? ⟨g, 8, none⟩ = some (.int .u32 s7) := hst 7 (by omega)
  clear hst hwse hp hws hb
  have H0 := Aside0.mk (show MixInv w1 (rounds s ws 0) (w1.alloc (.cells #[.int .u32 s0, .int .u32 s1, .int .u32 s2, .int .u32 s3, .int .u32 s4, .int .u32 s5, .int .u32 s6, .int .u32 s7] 107)) by
    refine ⟨?_, below_alloc (Below.refl _ _) _⟩
    rw [show rounds s ws 0 = s from rfl, HS.out]
    exact blk_new _ _)
  have HLS := Aside0.mk (show s.length = 8 from HI.out.2.2.1)
  have HUS := Aside0.mk (show U32 s from HI.out.2.2.2.2.1)
  go_wp2
  clear z0 z1 z2 z3 z4 z5 z6 z7
  go_loopw [6, 7, 8, 9, 10, 11, 12, 23] (fun _ _ _ _ _ _ _ i wr => ∃ k : Nat, k ≤ 64 ∧ i = .int .i64 k ∧ MixInv w1 (rounds s ws k) wr) (fun _ _ _ _ _ _ _ i _ => 64 - (intOf i).toNat)
  case atStart => exact ⟨0, by omega, rfl, H0.out⟩
  case round =>
    obtain ⟨k, hk, rfl, hinv⟩ := hrel
    have hU := (rounds_u32 HUS.out ws k).at
    obtain ⟨v0, v1, v2, v3, v4, v5, v6, v7, hv⟩ := len8 (rounds_len HLS.out ws k)
    have HV := Aside0.mk hv
    rw [hv] at hU
    have hinv' := hinv
    rw [hv] at hinv'
    have HI2 := Aside0.mk hinv'
    have hw := hinv'.1.cell
    have c0 : wr.cell? ⟨w1.heap.size, 0, none⟩ = some (.int .u32 v0) := hw 0 (by simp)
    have c1 : wr.cell? ⟨w1.heap.size, 1, none⟩ = some (.int .u32 v1) := hw 1 (by simp)
    have c2 : wr.cell? ⟨w1.heap.size, 2, none⟩ = some (.int .u32 v2) := hw 2 (by simp)
    have c4 : wr.cell? ⟨w1.heap.size, 4, none⟩ = some (.int .u32 v4) := hw 4 (by simp)
    have c5 : wr.cell? ⟨w1.heap.size, 5, none⟩ = some (.int .u32 v5) := hw 5 (by simp)
    have c6 : wr.cell? ⟨w1.heap.size, 6, none⟩ = some (.int .u32 v6) := hw 6 (by simp)
    have c7 : wr.cell? ⟨w1.heap.size, 7, none⟩ = some (.int .u32 v7) := hw 7 (by simp)
    have HR0 := Aside0.mk (show 0 ≤ v0 ∧ v0 ≤ 4294967295 from hU 0)
    have HR4 := Aside0.mk (show 0 ≤ v4 ∧ v4 ≤ 4294967295 from hU 4)
    by_cases hlt : k < 64
    · obtain ⟨kk, hkk⟩ : ∃ x, keys.getD k 0 = x := ⟨_, rfl⟩
      obtain ⟨xx, hxx⟩ : ∃ x, ws.getD k 0 = x := ⟨_, rfl⟩
      have ck : wr.cell? ⟨kb, k, none⟩ = some (.int .u32 kk) := by
        rw [← hkk]
        have := HK1.out.cell k (by show k < 64; omega)
        exact (hinv.2.cell (World.block_lt_of_cell? _ _ this)).trans this
      have cx : wr.cell? ⟨p, k, none⟩ = some (.int .u32 xx) := by
        rw [← hxx]
        have := HW.out.cell k (by rw [← HWE.out, fill_len]; omega)
        exact (hinv.2.cell (World.block_lt_of_cell? _ _ this)).trans this
      have HKX := Aside0.mk (And.intro hkk hxx)
      have g4 : (0 : Int) ≤ (k : Int) := by omega
      have f4 : (k : Int) < 64 := by omega
      clear hv hU hinv hinv' hw hkk hxx
      go_wp2
      go_quiet (fail)
      have d0 : (wr.drewN nq).cell? ⟨w1.heap.size, 0, none⟩ = some (.int .u32 v0) := c0
      have d1 : (wr.drewN nq).cell? ⟨w1.heap.size, 1, none⟩ = some (.int .u32 v1) := c1
      have d2 : (wr.drewN nq).cell? ⟨w1.heap.size, 2, none⟩ = some (.int .u32 v2) := c2
      have d5 : (wr.drewN nq).cell? ⟨w1.heap.size, 5, none⟩ = some (.int .u32 v5) := c5
      have d6 : (wr.drewN nq).cell? ⟨w1.heap.size, 6, none⟩ = some (.int .u32 v6) := c6
      have d7 : (wr.drewN nq).cell? ⟨w1.heap.size, 7, none⟩ = some (.int .u32 v7) := c7
      have dk : (wr.drewN nq).cell? ⟨kb, k, none⟩ = some (.int .u32 kk) := ck
      have dx : (wr.drewN nq).cell? ⟨p, k, none⟩ = some (.int .u32 xx) := cx
      have HI3 := Aside0.mk (HI2.out.drewN nq)
      clear c0 c1 c2 c4 c5 c6 c7 ck cx HI2
      revert d0 d1 d2 d5 d6 d7 dk dx HI3
      generalize wr.drewN nq = wq
      intro d0 d1 d2 d5 d6 d7 dk dx HI3
      have rq6 := fun m => rightq_6 v4 wq m HR4.out
      have rq11 := fun m => rightq_11 v4 wq m HR4.out
      have rq25 := fun m => rightq_25 v4 wq m HR4.out
      go_wp2_with (fail)
      go_quiet ((first | (with_reducible exact rq6 _) | (with_reducible exact rq11 _) | (with_reducible exact rq25 _)))
      have HI4 := Aside0.mk (HI3.out.drewN nq)
      clear d0 d1 d2 d5 d6 d7 dk dx HI3 rq6 rq11 rq25
      revert HI4
      generalize wq.drewN nq = w2
      intro HI4
      go_wp2_with (fail)
      refine (right_2 v0 _ HR0.out.1 HR0.out.2).mono ?_
      rintro e w' ⟨rfl, rfl⟩
      go_wp2_with (fail)
      refine (right_13 v0 _ HR0.out.1 HR0.out.2).mono ?_
      rintro e w' ⟨rfl, rfl⟩
      go_wp2_with (fail)
      refine (right_22 v0 _ HR0.out.1 HR0.out.2).mono ?_
      rintro e w' ⟨rfl, rfl⟩
      go_wp2_with (fail)
      go_still_tail 2, (by kernel_rfl)
      change wpList _ _ _ _ _ w2.drew
      refine wpList_copy_splice rfl (.tmp 90) (.tmp 91) 144 144 rfl 106 Try.underlying144 info_u32 (some ⟨w1.heap.size, 1, none⟩) (some ⟨w1.heap.size, 0, none⟩) 7 7 7 8 rfl rfl w1.heap.size 1 (nums .u32 [v0, v1, v2, v3, v4, v5, v6, v7]) 107 HI4.out.1 (nums .u32 [v0, v1, v2, v3, v4, v5, v6]) rfl (fun _ => ⟨rfl, _, rfl, fun j v hv => ?hsrc⟩) (by simp [nums]) (fun v hv => ?hone) w1.heap.size w1 (below_drew1 HI4.out.2) (Nat.le_refl _) ?_
      case hsrc =>
        have hj : j < 7 := (List.getElem?_eq_some_iff.1 hv).1
        rw [add_plain]
        have := HI4.out.1.cell j (by show j < 8; omega)
        refine (show w2.drew.cell? _ = _ from this).trans ?_
        rw [← hv]
        match j, hj with
        | 0, _ => rfl
        | 1, _ => rfl
        | 2, _ => rfl
        | 3, _ => rfl
        | 4, _ => rfl
        | 5, _ => rfl
        | 6, _ => rfl
      case hone =>
        obtain ⟨x, _, rfl⟩ := List.mem_map.1 hv
        rfl
      intro w3 hg3 hb3
      have HI5 := Aside0.mk (show MixInv w1 [v0, v0, v1, v2, v3, v4, v5, v6] w3 from ⟨hg3, hb3⟩)
      have c0 : w3.cell? ⟨w1.heap.size, 0, none⟩ = some (.int .u32 v0) := HI5.out.1.cell 0 (by simp)
      have c4 : w3.cell? ⟨w1.heap.size, 4, none⟩ = some (.int .u32 v3) := HI5.out.1.cell 4 (by simp)
      have f0 := HI5.out.1.free 0
      have f4' := HI5.out.1.free 4
      clear hg3 hb3 HI4
      go_wp2
      go_roundw
      case rel =>
        refine ⟨k + 1, by omega, by go_num, HI5.out.next ?_⟩
        rw [show rounds s ws (k + 1) = ShaPlain.step (rounds s ws k) (keys.getD k 0) (ws.getD k 0) from rfl, HV.out, HKX.out.1, HKX.out.2]
        show [m32 (one _ kk xx + two _), v0, v1, v2, m32 (v3 + one _ kk xx), v4, v5, v6] = _
        simp only [List.cons.injEq, true_and, and_true]
        constructor
        · show m32 (m32 (v7 + sigE v4 + choice v4 v5 v6 + kk + xx) + m32 (sigA v0 + most v0 v1 v2)) = _
          unfold m32 sigE sigA choice most xo an
          omega
        · show m32 (v3 + m32 (v7 + sigE v4 + choice v4 v5 v6 + kk + xx)) = _
          unfold m32 sigE choice xo an
          omega
      case measure => simp [intOf]; omega
    · have HKE := Aside0.mk (show k = 64 by omega)
      have hge : 64 ≤ k := by omega
      have c3 : wr.cell? ⟨w1.heap.size, 3, none⟩ = some (.int .u32 v3) := hw 3 (by simp)
      have hb2 := below_step HB1.out (HB1.out.mono (Nat.le_refl _) |> fun _ => hinv.2)
      have HA := Aside0.mk (show AddInv w0 w g s (rounds s ws 64) r n 0 wr from by
        refine ⟨?_, below_step HB.out hb2, KeepBut.of_below hb2 g none⟩
        rw [List.take_zero, List.zipWith_nil_left, List.nil_append, List.drop_zero]
        exact HI1.out.below hinv.2)
      have HVV := Aside0.mk (show rounds s ws 64 = [v0, v1, v2, v3, v4, v5, v6, v7] by have h := HV.out; rwa [HKE.out] at h)
      clear hv hU hinv hinv' hw hlt hk hb2
      have hdk : decide ((k : Int) < 64) = false := decide_eq_false (by omega)
      go_wp2
      clear hge hdk c0 c1 c2 c3 c4 c5 c6 c7
      go_loopw [13, 14, 104] (fun _ _ i wx => ∃ j : Nat, j ≤ 8 ∧ i = .int .i64 j ∧ AddInv w0 w g s (rounds s ws 64) r n j wx) (fun _ _ i _ => 8 - (intOf i).toNat)
      case atStart => exact ⟨0, by omega, rfl, HA.out⟩
      case round =>
        clear HA
        obtain ⟨j, hj, rfl, hinv⟩ := hrel
        have HA := Aside0.mk hinv
        by_cases hlt : j < 8
        · have hc := hinv.cell hlt HLS.out (rounds_len HLS.out ws 64)
          have hf : wr.drew.frozen? ⟨g, 1 + j, none⟩ = false := hinv.1.free (1 + j)
          have hd : wr.drew.cell? ⟨g, 1 + j, none⟩ = some (.int .u32 (s.getD j 0)) := hc
          have hN := fun X => hinv.next (X := X) hlt HLS.out (rounds_len HLS.out ws 64)
          have HN := Aside0.mk hN
          clear hN hinv
          have h8 : j = 0 ∨ j = 1 ∨ j = 2 ∨ j = 3 ∨ j = 4 ∨ j = 5 ∨ j = 6 ∨ j = 7 := by omega
          clear hj hlt HA
          rw [HS.out] at hc hd
          rcases h8 with rfl | rfl | rfl | rfl | rfl | rfl | rfl | rfl
          · dsimp only [List.getD_cons_zero, List.getD_cons_succ, Nat.reduceAdd] at hc hd hf
            have ij : ∀ w, (Instr.index 107 (.agg #[.int .u32 v0, .int .u32 v1, .int .u32 v2, .int .u32 v3, .int .u32 v4, .int .u32 v5, .int .u32 v6, .int .u32 v7]) (.int .i64 0)).run Try.prog w = .ok (.int .u32 v0) w := fun _ => by kernel_rfl
            go_wp2
            go_still_tail 11, (by kernel_rfl)
            change wpList _ _ _ _ _ wr.drew
            obtain ⟨w2, hw2⟩ : ∃ w2, wr.drew = w2 := ⟨_, rfl⟩
            have HW2 := Aside0.mk hw2
            rw [hw2] at hf hd ⊢
            clear hw2
            go_wp2
            go_roundw
            case rel =>
              refine ⟨1, by omega, rfl, ?_⟩
              rw [← HW2.out]
              exact HN.out _ (by rw [HVV.out, HS.out]; rfl)
            case measure => simp [intOf]
          · dsimp only [List.getD_cons_zero, List.getD_cons_succ, Nat.reduceAdd] at hc hd hf
            have ij : ∀ w, (Instr.index 107 (.agg #[.int .u32 v0, .int .u32 v1, .int .u32 v2, .int .u32 v3, .int .u32 v4, .int .u32 v5, .int .u32 v6, .int .u32 v7]) (.int .i64 1)).run Try.prog w = .ok (.int .u32 v1) w := fun _ => by kernel_rfl
            go_wp2
            go_still_tail 11, (by kernel_rfl)
            change wpList _ _ _ _ _ wr.drew
            obtain ⟨w2, hw2⟩ : ∃ w2, wr.drew = w2 := ⟨_, rfl⟩
            have HW2 := Aside0.mk hw2
            rw [hw2] at hf hd ⊢
            clear hw2
            go_wp2
            go_roundw
            case rel =>
              refine ⟨2, by omega, rfl, ?_⟩
              rw [← HW2.out]
              exact HN.out _ (by rw [HVV.out, HS.out]; rfl)
            case measure => simp [intOf]
          · dsimp only [List.getD_cons_zero, List.getD_cons_succ, Nat.reduceAdd] at hc hd hf
            have ij : ∀ w, (Instr.index 107 (.agg #[.int .u32 v0, .int .u32 v1, .int .u32 v2, .int .u32 v3, .int .u32 v4, .int .u32 v5, .int .u32 v6, .int .u32 v7]) (.int .i64 2)).run Try.prog w = .ok (.int .u32 v2) w := fun _ => by kernel_rfl
            go_wp2
            go_still_tail 11, (by kernel_rfl)
            change wpList _ _ _ _ _ wr.drew
            obtain ⟨w2, hw2⟩ : ∃ w2, wr.drew = w2 := ⟨_, rfl⟩
            have HW2 := Aside0.mk hw2
            rw [hw2] at hf hd ⊢
            clear hw2
            go_wp2
            go_roundw
            case rel =>
              refine ⟨3, by omega, rfl, ?_⟩
              rw [← HW2.out]
              exact HN.out _ (by rw [HVV.out, HS.out]; rfl)
            case measure => simp [intOf]
          · dsimp only [List.getD_cons_zero, List.getD_cons_succ, Nat.reduceAdd] at hc hd hf
            have ij : ∀ w, (Instr.index 107 (.agg #[.int .u32 v0, .int .u32 v1, .int .u32 v2, .int .u32 v3, .int .u32 v4, .int .u32 v5, .int .u32 v6, .int .u32 v7]) (.int .i64 3)).run Try.prog w = .ok (.int .u32 v3) w := fun _ => by kernel_rfl
            go_wp2
            go_still_tail 11, (by kernel_rfl)
            change wpList _ _ _ _ _ wr.drew
            obtain ⟨w2, hw2⟩ : ∃ w2, wr.drew = w2 := ⟨_, rfl⟩
            have HW2 := Aside0.mk hw2
            rw [hw2] at hf hd ⊢
            clear hw2
            go_wp2
            go_roundw
            case rel =>
              refine ⟨4, by omega, rfl, ?_⟩
              rw [← HW2.out]
              exact HN.out _ (by rw [HVV.out, HS.out]; rfl)
            case measure => simp [intOf]
          · dsimp only [List.getD_cons_zero, List.getD_cons_succ, Nat.reduceAdd] at hc hd hf
            have ij : ∀ w, (Instr.index 107 (.agg #[.int .u32 v0, .int .u32 v1, .int .u32 v2, .int .u32 v3, .int .u32 v4, .int .u32 v5, .int .u32 v6, .int .u32 v7]) (.int .i64 4)).run Try.prog w = .ok (.int .u32 v4) w := fun _ => by kernel_rfl
            go_wp2
            go_still_tail 11, (by kernel_rfl)
            change wpList _ _ _ _ _ wr.drew
            obtain ⟨w2, hw2⟩ : ∃ w2, wr.drew = w2 := ⟨_, rfl⟩
            have HW2 := Aside0.mk hw2
            rw [hw2] at hf hd ⊢
            clear hw2
            go_wp2
            go_roundw
            case rel =>
              refine ⟨5, by omega, rfl, ?_⟩
              rw [← HW2.out]
              exact HN.out _ (by rw [HVV.out, HS.out]; rfl)
            case measure => simp [intOf]
          · dsimp only [List.getD_cons_zero, List.getD_cons_succ, Nat.reduceAdd] at hc hd hf
            have ij : ∀ w, (Instr.index 107 (.agg #[.int .u32 v0, .int .u32 v1, .int .u32 v2, .int .u32 v3, .int .u32 v4, .int .u32 v5, .int .u32 v6, .int .u32 v7]) (.int .i64 5)).run Try.prog w = .ok (.int .u32 v5) w := fun _ => by kernel_rfl
            go_wp2
            go_still_tail 11, (by kernel_rfl)
            change wpList _ _ _ _ _ wr.drew
            obtain ⟨w2, hw2⟩ : ∃ w2, wr.drew = w2 := ⟨_, rfl⟩
            have HW2 := Aside0.mk hw2
            rw [hw2] at hf hd ⊢
            clear hw2
            go_wp2
            go_roundw
            case rel =>
              refine ⟨6, by omega, rfl, ?_⟩
              rw [← HW2.out]
              exact HN.out _ (by rw [HVV.out, HS.out]; rfl)
            case measure => simp [intOf]
          · dsimp only [List.getD_cons_zero, List.getD_cons_succ, Nat.reduceAdd] at hc hd hf
            have ij : ∀ w, (Instr.index 107 (.agg #[.int .u32 v0, .int .u32 v1, .int .u32 v2, .int .u32 v3, .int .u32 v4, .int .u32 v5, .int .u32 v6, .int .u32 v7]) (.int .i64 6)).run Try.prog w = .ok (.int .u32 v6) w := fun _ => by kernel_rfl
            go_wp2
            go_still_tail 11, (by kernel_rfl)
            change wpList _ _ _ _ _ wr.drew
            obtain ⟨w2, hw2⟩ : ∃ w2, wr.drew = w2 := ⟨_, rfl⟩
            have HW2 := Aside0.mk hw2
            rw [hw2] at hf hd ⊢
            clear hw2
            go_wp2
            go_roundw
            case rel =>
              refine ⟨7, by omega, rfl, ?_⟩
              rw [← HW2.out]
              exact HN.out _ (by rw [HVV.out, HS.out]; rfl)
            case measure => simp [intOf]
          · dsimp only [List.getD_cons_zero, List.getD_cons_succ, Nat.reduceAdd] at hc hd hf
            have ij : ∀ w, (Instr.index 107 (.agg #[.int .u32 v0, .int .u32 v1, .int .u32 v2, .int .u32 v3, .int .u32 v4, .int .u32 v5, .int .u32 v6, .int .u32 v7]) (.int .i64 7)).run Try.prog w = .ok (.int .u32 v7) w := fun _ => by kernel_rfl
            go_wp2
            go_still_tail 11, (by kernel_rfl)
            change wpList _ _ _ _ _ wr.drew
            obtain ⟨w2, hw2⟩ : ∃ w2, wr.drew = w2 := ⟨_, rfl⟩
            have HW2 := Aside0.mk hw2
            rw [hw2] at hf hd ⊢
            clear hw2
            go_wp2
            go_roundw
            case rel =>
              refine ⟨8, by omega, rfl, ?_⟩
              rw [← HW2.out]
              exact HN.out _ (by rw [HVV.out, HS.out]; rfl)
            case measure => simp [intOf]
        · have hj8 := Aside0.mk (show j = 8 by omega)
          have hge : 8 ≤ j := by omega
          clear hinv hlt hj
          go_wp2
          go_end0
          have h := HA.out
          rw [hj8.out] at h
          refine ⟨rfl, ?_, h.2⟩
          have h1 := h.1
          rw [List.take_of_length_le (by rw [HLS.out]; omega), List.drop_of_length_le (by rw [HLS.out]; omega), List.append_nil, ← HWE.out] at h1
          exact h1
end Go.Proofs.Ytfpkgdenohcglaa.Sha
/- Small plain laws on rounds, numbers and lists. -/
namespace Go.Proofs.Ytfpkgdenohcglaa.Aid
open Go.RowKit Go.Proofs.YtfpkgdenohcglaaW.PrintWords Go.Proofs.YtfpkgdenohcglaaW.PrintLast

theorem pos {α : Type} {c : Prop} [Decidable c] {a b : Nat → Option α} {r : α} (h : c) (e : Ev a r) : Ev (fun k => if c then a k else b k) r := by
  simpa only [if_pos h] using e
theorem neg {α : Type} {c : Prop} [Decidable c] {a b : Nat → Option α} {r : α} (h : ¬ c) (e : Ev b r) : Ev (fun k => if c then a k else b k) r := by
  simpa only [if_neg h] using e
theorem now {α : Type} {r s : α} (h : r = s) : Ev (fun _ => some r) s := h ▸ Ev.now r
theorem evBind {α β : Type} {g : Nat → Option α} {f : Nat → α → Option β} {a : α} {r : β} (h : Ev g a) (k : Ev (fun n => f n a) r) : Ev (fun n => (g n).bind (f n)) r := h.bind k
theorem bindSome {α β : Type} {o : Option α} {f : Nat → α → Option β} {a : α} {r : β} (h : o = some a) (k : Ev (fun n => f n a) r) : Ev (fun n => o.bind (f n)) r := by
  subst h; exact k
theorem w64 {x : Int} (h0 : -9223372036854775808 ≤ x) (h1 : x ≤ 9223372036854775807) : wrap64 x = x := by unfold wrap64; omega
theorem u64 {x : Int} (h0 : 0 ≤ x) (h1 : x ≤ 18446744073709551615) : IntKind.u64.wrap x = x := IntWalk.u64_in x ⟨h0, h1⟩
theorem rd_nat (xs : List Int) (i : Nat) (h : i < xs.length) : rd xs (i : Int) = xs[i] := by
  simp [rd, List.getD_eq_getElem?_getD, List.getElem?_eq_getElem h]
theorem drop_cons {α : Type} (xs : List α) (i : Nat) (h : i < xs.length) : xs.drop i = xs[i] :: xs.drop (i + 1) := List.drop_eq_getElem_cons h
theorem inc {i n : Nat} (h : i < n) (hn : n ≤ 4611686018427387904) : wrap64 ((i : Int) + 1) = ((i + 1 : Nat) : Int) := by rw [w64 (by omega) (by omega)]; rfl
theorem take_snoc {α : Type} (xs : List α) (i : Nat) (h : i < xs.length) : xs.take (i + 1) = xs.take i ++ [xs[i]] := List.take_succ_eq_append_getElem h
end Go.Proofs.Ytfpkgdenohcglaa.Aid
/- sha: roots, New and Write walked. -/
namespace Go.Proofs.Ytfpkgdenohcglaa.Sha
set_option linter.unusedVariables false
open Go.RowKit Go.Proofs.Ytfpkgdenohcglaa.Base Go.Proofs.Ytfpkgdenohcglaa.ShaPlain Go.Proofs.Ytfpkgdenohcglaa.Aid Go.Proofs.YtfpkgdenohcglaaW.PrintWords Go.Proofs.YtfpkgdenohcglaaW.PrintLast Go.Proofs.YtfpkgdenohcglaaW.PrintMore
set_option maxHeartbeats 2000000 in
set_option maxRecDepth 100000 in
theorem roots_c (w : World) : Calls Try.prog 114 #[] w fun e w' => ∃ p : Nat, e = .returned (.pointer (some ⟨p, 0, none⟩)) ∧ w.heap.size ≤ p ∧ Words w' p 119 keys ∧ Below w.heap.size w w' := by
  go_enter Try.func114, Try.ntmps114
  go_wp2
  go_ret
  exact ⟨_, rfl, Nat.le_refl _, blk_new _ _, below_alloc (Below.refl _ _) _⟩
set_option maxHeartbeats 2000000 in
set_option maxRecDepth 100000 in
theorem new_c (w : World) : Calls Try.prog 108 #[] w fun e w' => ∃ g : Nat, e = .returned (.pointer (some ⟨g, 0, none⟩)) ∧ Hsh w w' g true ShaPlain.start (List.replicate 64 0) 0 ∧ Below w.heap.size w w' := by
  go_enter Try.func108, Try.ntmps108
  go_wp2
  go_ret
  exact ⟨_, rfl, ⟨Nat.le_refl _, blk_new _ _, rfl, by simp, start_u32, fun x hx => by rw [List.eq_of_mem_replicate hx]; omega⟩, below_alloc (Below.refl _ _) _⟩
/-- A Hash's state: the eight words, the block under way, how many bytes there were. -/
abbrev St := List Int × List Int × Nat
def put (st : St) (c : Int) : St := (if st.2.2 % 64 = 63 then press st.1 (st.2.1.set (st.2.2 % 64) c) else st.1, st.2.1.set (st.2.2 % 64) c, st.2.2 + 1)
theorem put_n (st : St) (c : Int) : (put st c).2.2 = st.2.2 + 1 := rfl
theorem puts_n (l : List Int) : ∀ st : St, (l.foldl put st).2.2 = st.2.2 + l.length := by
  induction l with
  | nil => intro st; rfl
  | cons c l ih => intro st; rw [List.foldl_cons, ih, put_n, List.length_cons]; omega
def HS (w0 w : World) (g : Nat) (st : St) : Prop := Hsh w0 w g true st.1 st.2.1 st.2.2
/-- What a Write under way has left. -/
def WInv (w0 w : World) (g kb : Nat) (st : St) (wx : World) : Prop := HS w0 wx g st ∧ Below w0.heap.size w0 wx ∧ KeepBut w wx g none ∧ Words wx kb 119 keys
theorem WInv.byte {w0 w wr : World} {g kb : Nat} {s r : List Int} {n m : Nat} {x : Int} (h : WInv w0 w g kb (s, r, n) wr) (hm : m < 64) (hx : 0 ≤ x ∧ x ≤ 255) (hkb : kb ≠ g) :
    WInv w0 w g kb (s, r.set m x, n + 1) ((wr.setCell ⟨g, 9 + m, none⟩ (.int .u8 x)).setCell ⟨g, 73, none⟩ (.int .u64 ((n : Int) + 1))) := by
  have h1 := (Hsh.set_rest h.1 m x hm hx).set_n ((n : Int) + 1)
  have hk1 : KeepBut wr ((wr.setCell ⟨g, 9 + m, none⟩ (.int .u8 x)).setCell ⟨g, 73, none⟩ (.int .u64 ((n : Int) + 1))) g none := ((KeepBut.refl wr g none).set_ _ _).set_ _ _
  exact ⟨h1, below_set (below_set h.2.1 h.1.1) h.1.1, h.2.2.1.trans hk1 (.inl rfl), hk1.blk h.2.2.2 hkb (by simp)⟩
theorem foldl_snoc {st : St} {b : List Int} {k : Nat} (hk : k < b.length) : List.foldl put st (b.take (k + 1)) = put (List.foldl put st (b.take k)) b[k] := by
  rw [take_snoc b k hk, List.foldl_append]; rfl
set_option maxHeartbeats 4000000 in
set_option maxRecDepth 100000 in
theorem write_c (w0 w : World) (g : Nat) (st : St) (A : Option Addr) (c : Nat) (b : List Int) (h : HS w0 w g st) (hB : Below w0.heap.size w0 w) (hr : Rb w A b) (hc : b.length ≤ c) (hu : ∀ x ∈ b, 0 ≤ x ∧ x ≤ 255) (hne : ∀ a, A = some a → 0 < b.length → a.block ≠ g) (hn : st.2.2 + b.length ≤ 1152921504606846976) :
    Calls Try.prog 109 #[.pointer (some ⟨g, 0, none⟩), .slice A b.length c] w fun e w' => e = .returned (.tuple #[]) ∧ HS w0 w' g (b.foldl put st) ∧ Below w0.heap.size w0 w' ∧ KeepBut w w' g none := by
  have c0 : w.cell? ⟨g, 0, none⟩ = some (.bool true) := h.made_
  have HH := Aside0.mk h
  have HB := Aside0.mk hB
  have HR := Aside0.mk hr
  have HC := Aside0.mk hc
  have HU := Aside0.mk hu
  have HNE := Aside0.mk hne
  have HN := Aside0.mk hn
  have hlen : b.length ≤ 1152921504606846976 := by omega
  clear h hB hr hc hu hne hn
  go_enter Try.func109, Try.ntmps109
  go_wp2_with (fail)
  refine (roots_c _).mono ?_
  rintro e w1 ⟨kb, rfl, hkb, hk, hb⟩
  have H0 := Aside0.mk (show WInv w0 w g kb (List.foldl put st (b.take 0)) w1 from ⟨HH.out.below hb, below_step HB.out hb, KeepBut.of_below hb g none, hk⟩)
  have HKB := Aside0.mk (show kb ≠ g by have := HH.out.lt; omega)
  clear hkb hk hb c0
  go_wp2
  go_loopw [6, 7, 20] (fun _ _ i wx => ∃ k : Nat, k ≤ b.length ∧ i = .int .i64 k ∧ WInv w0 w g kb (List.foldl put st (b.take k)) wx) (fun _ _ i _ => b.length - (intOf i).toNat)
  case atStart => exact ⟨0, by omega, rfl, H0.out⟩
  case round =>
    clear H0
    obtain ⟨k, hk, rfl, hinv⟩ := hrel
    have HI := Aside0.mk hinv
    by_cases hlt : k < b.length
    · obtain ⟨ad, rfl, hcell⟩ := Kd.at_int HR.out k (by omega) (by omega)
      obtain ⟨x, hx⟩ : ∃ x, b[k] = x := ⟨_, rfl⟩
      have HX := Aside0.mk hx
      rw [rd_nat b k hlt, hx, Int.toNat_natCast] at hcell
      have hcx : wr.cell? (ad.add k) = some (.int .u8 x) := keep_cell hinv.2.2.1 hcell (by
        rw [show (ad.add k).block = ad.block from by unfold Addr.add; split <;> rfl]
        exact HNE.out ad rfl (by omega))
      have hxr := HU.out x (by rw [← hx]; exact List.getElem_mem hlt)
      have hpn := puts_n (b.take k) st
      obtain ⟨stk, hst⟩ : ∃ z, List.foldl put st (b.take k) = z := ⟨_, rfl⟩
      have HST := Aside0.mk hst
      rw [hst] at hinv hpn HI
      obtain ⟨s, r, n⟩ := stk
      rw [List.length_take, Nat.min_eq_left hk] at hpn
      have hn' : n ≤ 1152921504606846976 := by have := HN.out; dsimp only at hpn; omega
      obtain ⟨m, hm⟩ : ∃ m, n % 64 = m := ⟨_, rfl⟩
      have HM := Aside0.mk hm
      have hm64 : m < 64 := by omega
      have hmi : (n : Int) % 64 = (m : Int) := by omega
      have hn0 : (0 : Int) ≤ (n : Int) := by omega
      have hnw : IntKind.u64.wrap ((n : Int) + 1) = ((n + 1 : Nat) : Int) := IntWalk.u64_in _ (by omega)
      have cn : wr.cell? ⟨g, 73, none⟩ = some (.int .u64 (n : Int)) := hinv.1.n_
      have cr : wr.cell? ⟨g, 9 + m, none⟩ = some (.int .u8 (r.getD m 0)) := hinv.1.rest m hm64
      have fr := hinv.1.free (9 + m)
      have H1 := Hsh.set_rest hinv.1 m x hm64 hxr
      have cn1 : (wr.setCell ⟨g, 9 + m, none⟩ (.int .u8 x)).cell? ⟨g, 73, none⟩ = some (.int .u64 (n : Int)) := H1.n_
      have fn1 := H1.free 73
      have m0 : (0 : Int) ≤ (m : Int) := by omega
      have m1 : (m : Int) < 64 := by omega
      clear hx hcell hpn hst hm hinv H1
      by_cases h63 : m = 63
      · have hb63 : ((m : Int) == 63) = true := by simp; omega
        have HXR := Aside0.mk hxr
        have HM64 := Aside0.mk hm64
        have H63 := Aside0.mk h63
        clear h63 hm64 hxr
        go_wp2_with (fail)
        have hB := WInv.byte HI.out HM64.out HXR.out HKB.out
        refine (mix_c w0 _ g kb s (r.set m x) ((n : Int) + 1) (show Hsh w0 _ g true s (r.set m x) ((n : Int) + 1) from hB.1) hB.2.1 hB.2.2.2 HKB.out).mono ?_
        rintro e w2 ⟨rfl, h1, h2, h3⟩
        have HF := Aside0.mk (show WInv w0 w g kb (List.foldl put st (b.take (k + 1))) w2 from by
          rw [foldl_snoc hlt, HST.out, HX.out]
          have e : put (s, r, n) x = (press s (r.set m x), r.set m x, n + 1) := by
            unfold put
            dsimp only
            rw [HM.out, if_pos H63.out]
          rw [e]
          exact ⟨h1, h2, hB.2.2.1.trans h3 (.inl rfl), h3.blk hB.2.2.2 HKB.out (by simp)⟩)
        clear h1 h2 h3 hB cn cr fr cn1 fn1
        go_wp2
        go_roundw
        case rel => exact ⟨k + 1, by omega, by go_num, HF.out⟩
        case measure => simp [intOf]; omega
      · have hb63 : ((m : Int) == 63) = false := by simp; omega
        have HF := Aside0.mk (show WInv w0 w g kb (List.foldl put st (b.take (k + 1))) ((wr.setCell ⟨g, 9 + m, none⟩ (.int .u8 x)).setCell ⟨g, 73, none⟩ (.int .u64 ((n : Int) + 1))) from by
          rw [foldl_snoc hlt, HST.out, HX.out]
          have e : put (s, r, n) x = (s, r.set m x, n + 1) := by
            unfold put
            dsimp only
            rw [HM.out, if_neg h63]
          rw [e]
          exact WInv.byte HI.out hm64 hxr HKB.out)
        go_wp2
        go_roundw
        case rel => exact ⟨k + 1, by omega, by go_num, HF.out⟩
        case measure => simp [intOf]; omega
    · have HKE := Aside0.mk (show b.take k = b from List.take_of_length_le (by omega))
      have hge : b.length ≤ k := by omega
      clear hinv hlt
      go_wp2
      go_end0
      have h := HI.out
      rw [HKE.out] at h
      exact ⟨rfl, h.1, h.2.1, h.2.2.1⟩
end Go.Proofs.Ytfpkgdenohcglaa.Sha
/- sha: Sum walked. -/
namespace Go.Proofs.Ytfpkgdenohcglaa.Sha
set_option linter.unusedVariables false
open Go.RowKit Go.Proofs.Ytfpkgdenohcglaa.Base Go.Proofs.Ytfpkgdenohcglaa.ShaPlain Go.Proofs.Ytfpkgdenohcglaa.Aid Go.Proofs.YtfpkgdenohcglaaW.PrintWords Go.Proofs.YtfpkgdenohcglaaW.PrintLast Go.Proofs.YtfpkgdenohcglaaW.PrintMore
/-- What is put behind a text of n bytes. -/
def sizeB (m : Nat) : List Int := (List.range 8).map fun i => ((m / 2 ^ (56 - 8 * i) % 256 : Nat) : Int)
def padB (n : Nat) : List Int := 128 :: (List.replicate ((119 - n % 64) % 64) 0 ++ sizeB (8 * n))
def outN (s : List Int) : Nat → List Int
  | 0 => List.replicate 32 0
  | k + 1 => (outN s k).set k (s.getD (k / 4) 0 / 2 ^ (24 - 8 * (k % 4)) % 256)
def outB (s : List Int) : List Int := outN s 32
theorem outN_len (s : List Int) : ∀ k, (outN s k).length = 32
  | 0 => by simp [outN]
  | k + 1 => by simp [outN, outN_len s k]
theorem outN_u8 (s : List Int) : ∀ k, ∀ x ∈ outN s k, 0 ≤ x ∧ x ≤ 255
  | 0 => fun x hx => by rw [outN] at hx; rw [List.eq_of_mem_replicate hx]; omega
  | k + 1 => fun x hx => (List.mem_or_eq_of_mem_set hx).elim (outN_u8 s k x) (fun e => by subst e; omega)
def sumB (st : St) : List Int := outB ((padB st.2.2).foldl put st).1
theorem info_hash : (Try.prog.info? 136).map (·.size) = some 74 := by kernel_rfl
theorem info_32 : (Try.prog.info? 23).map (·.size) = some 32 := by kernel_rfl
theorem hashC_one {made : Bool} {s r : List Int} {n : Int} : (hashC made s r n).toArray.all (·.oneCell') = true := by
  refine all_oneCell_toArray fun v hv => ?_
  simp only [hashC, nums, List.mem_cons, List.mem_append, List.mem_map, List.not_mem_nil, or_false] at hv
  rcases hv with rfl | ⟨x, _, rfl⟩ | ⟨x, _, rfl⟩ | rfl <;> rfl
/-- Sum under way: the copy, and the two cells of the answer. -/
def SInv (w : World) (g p2 p3 : Nat) (st : St) (W : World) : Prop :=
  HS w W g st ∧ Below w.heap.size w W ∧ W.heap[p2]? = some (.cells (nums .u8 (List.replicate 32 0)).toArray 23 (0, 0)) ∧ W.heap[p3]? = some (.cells (nums .u8 (List.replicate 32 0)).toArray 23 (0, 0)) ∧ p2 ≠ g ∧ p3 ≠ g ∧ p2 ≠ p3 ∧ w.heap.size ≤ p2 ∧ w.heap.size ≤ p3
theorem copy_block (w : World) (Z Z' : Obj) (C0 C : Array Value) (T : Nat) : (((w.alloc Z).alloc Z').alloc (.cells C0 T)).setRow (w.heap.size + 1 + 1) C = ((w.alloc Z).alloc Z').alloc (.cells C T) := by
  have h := World.setRow_alloc_new ((w.alloc Z).alloc Z') C0 C T
  simpa using h
theorem third_new (w : World) (Z Z' o : Obj) : (((w.alloc Z).alloc Z').alloc o).heap[w.heap.size + 1 + 1]? = some o := by
  have h := blk_new ((w.alloc Z).alloc Z') o
  simpa using h
theorem SInv.start {w : World} {s r : List Int} {n : Nat} (hs : s.length = 8) (hr : r.length = 64) (hsu : U32 s) (hru : ∀ x ∈ r, 0 ≤ x ∧ x ≤ 255) {C : Array Value} (hC : (hashC true s r (n : Int)).toArray = C) :
    SInv w (w.heap.size + 1 + 1) w.heap.size (w.heap.size + 1) (s, r, n) (((w.alloc (.cells (nums .u8 (List.replicate 32 0)).toArray 23)).alloc (.cells (nums .u8 (List.replicate 32 0)).toArray 23)).alloc (.cells C 136)) := by
  subst hC
  have e1 : (w.alloc (.cells (nums .u8 (List.replicate 32 0)).toArray 23)).heap.size = w.heap.size + 1 := by simp
  have e2 : ((w.alloc (.cells (nums .u8 (List.replicate 32 0)).toArray 23)).alloc (.cells (nums .u8 (List.replicate 32 0)).toArray 23)).heap.size = w.heap.size + 1 + 1 := by simp
  refine ⟨⟨by omega, ?_, hs, hr, hsu, hru⟩, below_alloc (below_alloc (below_alloc (Below.refl _ _) _) _) _, ?_, ?_, by omega, by omega, by omega, by omega, by omega⟩
  · rw [← e2]; exact blk_new _ _
  · exact blk_alloc (blk_alloc (blk_new w _) _) _
  · have h := blk_new (w.alloc (.cells (nums .u8 (List.replicate 32 0)).toArray 23)) (.cells (nums .u8 (List.replicate 32 0)).toArray 23)
    rw [e1] at h
    exact blk_alloc h _
theorem one_u8 (w : World) (x : Int) (T : Nat) : Rb (w.alloc (.cells #[.int .u8 x] T)) (some ⟨w.heap.size, 0, none⟩) [x] := by
  refine Kd.C_of_reads (d := (0 : Int)) ⟨rfl, by simp, fun _ => ⟨_, rfl, fun j hj => ?_⟩⟩
  have h0 : j = 0 := by simp at hj; exact hj
  subst h0
  rw [show (⟨w.heap.size, 0, none⟩ : Addr).add 0 = ⟨w.heap.size, 0, none⟩ from rfl]
  simp [World.cell?_alloc_new]
theorem write1 {w W : World} {g p2 p3 : Nat} {st : St} (h : SInv w g p2 p3 st W) (x : Int) (hx : 0 ≤ x ∧ x ≤ 255) (T : Nat) (hn : st.2.2 ≤ 2000000000000) :
    Calls Try.prog 109 #[.pointer (some ⟨g, 0, none⟩), .slice (some ⟨W.heap.size, 0, none⟩) 1 1] (W.alloc (.cells #[.int .u8 x] T)) fun e w' => e = .returned (.tuple #[]) ∧ SInv w g p2 p3 (put st x) w' := by
  obtain ⟨h1, h2, h3, h4, h5, h6, h7, h8, h9⟩ := h
  have hb : Below W.heap.size W (W.alloc (.cells #[.int .u8 x] T)) := below_alloc (Below.refl _ _) _
  refine (write_c w _ g st (some ⟨W.heap.size, 0, none⟩) 1 [x] (Hsh.below h1 hb) (below_step h2 hb) (one_u8 W x T) (by simp) (by simpa using hx) (fun a ha _ => by have := Hsh.lt h1; injection ha with ha; subst ha; exact Nat.ne_of_gt this) (by simp only [List.length_cons, List.length_nil]; omega)).mono ?_
  rintro e w' ⟨rfl, k1, k2, k3⟩
  exact ⟨rfl, k1, k2, k3.blk (blk_below h3 hb) h5 (by simp), k3.blk (blk_below h4 hb) h6 (by simp), h5, h6, h7, h8, h9⟩
/-- The answer's bytes under way. -/
def OInv (w : World) (g p2 p3 : Nat) (st : St) (k : Nat) (W : World) : Prop :=
  HS w W g st ∧ Below w.heap.size w W ∧ W.heap[p2]? = some (.cells (nums .u8 (List.replicate 32 0)).toArray 23 (0, 0)) ∧ W.heap[p3]? = some (.cells (nums .u8 (outN st.1 k)).toArray 23 (0, 0)) ∧ p3 ≠ g ∧ p2 ≠ p3 ∧ w.heap.size ≤ p2 ∧ w.heap.size ≤ p3
theorem OInv.next {w W : World} {g p2 p3 k : Nat} {st : St} (h : OInv w g p2 p3 st k W) {x : Int} (hx : x = st.1.getD (k / 4) 0 / 2 ^ (24 - 8 * (k % 4)) % 256) : OInv w g p2 p3 st (k + 1) (W.setCell ⟨p3, k, none⟩ (.int .u8 x)) := by
  subst hx
  obtain ⟨h1, h2, h3, h4, h5, h6, h7, h8⟩ := h
  have hk : KeepBut W (W.setCell ⟨p3, k, none⟩ (.int .u8 (st.1.getD (k / 4) 0 / 2 ^ (24 - 8 * (k % 4)) % 256))) p3 none := keep_set _ _ _ _
  refine ⟨Hsh.keep h1 hk (Ne.symm h5), below_set h2 h8, hk.blk h3 h6 (by simp), ?_, h5, h6, h7, h8⟩
  have := blk_set h4 k (.int .u8 (st.1.getD (k / 4) 0 / 2 ^ (24 - 8 * (k % 4)) % 256))
  rw [nums_set] at this
  exact this
theorem nums_one (k : IntKind) (l : List Int) : (nums k l).toArray.all (·.oneCell') = true := by
  refine all_oneCell_toArray fun v hv => ?_
  obtain ⟨x, _, rfl⟩ := List.mem_map.1 hv
  rfl
theorem snoc_at {st : St} {L : List Int} {k : Nat} {x : Int} (hk : k < L.length) (hx : L.getD k 0 = x) : put (List.foldl put st (L.take k)) x = List.foldl put st (L.take (k + 1)) := by
  rw [foldl_snoc hk, ← hx, List.getD_eq_getElem?_getD, List.getElem?_eq_getElem hk]; rfl
theorem sizeB_len (m : Nat) : (sizeB m).length = 8 := by simp [sizeB]
theorem take_n (st : St) (L : List Int) (k : Nat) : (List.foldl put st (L.take k)).2.2 ≤ st.2.2 + k := by
  rw [puts_n, List.length_take]; omega
set_option maxHeartbeats 8000000 in
set_option maxRecDepth 100000 in
theorem sum_c (w : World) (g : Nat) (st : St) (h : w.heap[g]? = some (.cells (hashC true st.1 st.2.1 st.2.2).toArray 136 (0, 0))) (hs : st.1.length = 8) (hr : st.2.1.length = 64) (hsu : U32 st.1) (hru : ∀ x ∈ st.2.1, 0 ≤ x ∧ x ≤ 255) (hn : st.2.2 ≤ 1000000000000) :
    Calls Try.prog 110 #[.pointer (some ⟨g, 0, none⟩)] w fun e w' => e = .returned (.agg (nums .u8 (sumB st)).toArray) ∧ Below w.heap.size w w' := by
  have c0 : w.cell? ⟨g, 0, none⟩ = some (.bool true) := (blk_cell h 0).trans (by simp [hashC])
  obtain ⟨s, r, n⟩ := st
  dsimp only at h hs hr hsu hru hn
  have cn : w.cell? ⟨g, 73, none⟩ = some (.int .u64 (n : Int)) := (blk_cell h 73).trans (by simpa using hashC_n hs hr)
  have hlt := blk_lt h
  have hsz : (hashC true s r (n : Int)).toArray.size = 74 := by simpa using hashC_len hs hr
  have HZ := Aside0.mk hsz
  have HB := Aside0.mk h
  have HL := Aside0.mk (And.intro hs hr)
  have HU := Aside0.mk (And.intro hsu hru)
  have HN := Aside0.mk hn
  have HG := Aside0.mk hlt
  obtain ⟨C, hC⟩ : ∃ C, (hashC true s r (n : Int)).toArray = C := ⟨_, rfl⟩
  have HCC := Aside0.mk hC
  have n0 : (0 : Int) ≤ (n : Int) := by omega
  have n1 : (n : Int) ≤ 1000000000000 := by omega
  have hlt1 : g < w.heap.size + 1 := by omega
  rw [hC] at HB hsz
  have HZS := Aside0.mk (show (Try.prog.info? 136).map (·.size) = some C.size by rw [hsz]; exact info_hash)
  have HZ74 := Aside0.mk (show (74 : Nat) = C.size from hsz.symm)
  have HONE := Aside0.mk (show C.all (·.oneCell') = true by rw [← hC]; exact hashC_one)
  clear h hs hr hsu hru hn hsz hC HZ
  go_enter Try.func110, Try.ntmps110
  have H4 := fun W => fun (hW : ((w.alloc (.cells (nums .u8 (List.replicate 32 0)).toArray 23)).alloc (.cells (nums .u8 (List.replicate 32 0)).toArray 23)).alloc (.cells C 136) = W) => hW ▸ SInv.start (w := w) HL.out.1 HL.out.2 HU.out.1 HU.out.2 HCC.out
  have H4' := Aside0.mk H4
  clear H4
  go_wp2_with (first
    | ((with_reducible refine gate_dst (N := 20) rfl ?_); refine wpList_load_row rfl 136 (.tmp 19) rfl g rfl 136 C (0, 0) _ (by exact blk_alloc (blk_alloc HB.out _) _) Try.underlying136 rfl HZS.out ?_)
    | ((with_reducible refine gate_store (t := 136) (p := 4) (v := .tmp 20) rfl ?_); go_must (refine wpList_store_row rfl 136 (.tmp 4) (.tmp 20) rfl (w.heap.size + 1 + 1) C rfl rfl 136 _ (by exact third_new _ _ _ _) HZS.out (by exact HZ74.out) HONE.out ?_); go_must (rw [copy_block]); go_must (generalize hW : World.alloc _ (Obj.cells C 136) = W); go_must (have HS := Aside0.mk (H4'.out W hW)); clear hW; have cn2 := (HS.out.2.1.cell (p := ⟨g, 73, none⟩) HG.out).trans cn))
  clear c0 cn cn2 hlt hlt1
  obtain ⟨gE, hgE⟩ : ∃ x, w.heap.size + 1 + 1 = x := ⟨_, rfl⟩
  obtain ⟨p3, hp3⟩ : ∃ x, w.heap.size + 1 = x := ⟨_, rfl⟩
  obtain ⟨p2, hp2⟩ : ∃ x, w.heap.size = x := ⟨_, rfl⟩
  rw [hgE, hp3, hp2] at HS
  rw [hgE, hp3, hp2]
  clear hgE hp3 hp2 H4' HB HCC HZS HZ74 HONE
  refine (write1 HS.out 128 (by omega) _ (by have := HN.out; dsimp only; omega)).mono ?_
  rintro e w1 ⟨rfl, h1⟩
  obtain ⟨z, hz⟩ : ∃ z, (119 - n % 64) % 64 = z := ⟨_, rfl⟩
  have HZ := Aside0.mk hz
  have H1 := Aside0.mk h1
  clear h1 hz HS
  go_wp2_with (fail)
  go_loopg [] z (fun gk wx => gk ≤ z ∧ SInv w gE p2 p3 (List.foldl put (put (s, r, n) 128) (List.replicate (z - gk) 0)) wx)
  case atStart => exact ⟨Nat.le_refl _, by rw [Nat.sub_self]; exact H1.out⟩
  case round =>
    clear H1
    obtain ⟨hgk, hinv⟩ := hrel
    have HI := Aside0.mk hinv
    obtain ⟨stz, hst⟩ : ∃ y, List.foldl put (put (s, r, n) 128) (List.replicate (z - gk) 0) = y := ⟨_, rfl⟩
    have hnn : stz.2.2 = n + 1 + (z - gk) := by rw [← hst, puts_n, put_n, List.length_replicate]
    have HST := Aside0.mk hst
    rw [hst] at HI
    have hcn := HI.out.1.n_
    obtain ⟨q, hq⟩ : ∃ q, stz.2.2 % 64 = q := ⟨_, rfl⟩
    have hqi : ((stz.2.2 : Nat) : Int) % 64 = (q : Int) := by omega
    have hz := HZ.out
    have hN := HN.out
    have HQ := Aside0.mk hq
    have HNN := Aside0.mk hnn
    by_cases h56 : q = 56
    · have hbq : ((q : Int) == 56) = true := by simp; omega
      have hbn : ((q : Int) != 56) = false := by simp; omega
      have HGK := Aside0.mk (show z - gk = z by omega)
      clear hinv hst hnn hq h56 hz hN hgk
      have HA := Aside0.mk (show SInv w gE p2 p3 (List.foldl put stz ((sizeB (8 * n)).take 0)) wr from HI.out)
      have HBN := Aside0.mk (show stz.2.2 ≤ 1100000000000 by rw [HNN.out]; have := HZ.out; have := HN.out; omega)
      go_wp2_with (fail)
      clear hcn hqi hbq hbn HI
      go_loopw [6, 34] (fun _ i wx => ∃ k : Nat, k ≤ 8 ∧ i = .int .i64 k ∧ SInv w gE p2 p3 (List.foldl put stz ((sizeB (8 * n)).take k)) wx) (fun _ i _ => 8 - (intOf i).toNat)
      case atStart => exact ⟨0, by omega, rfl, HA.out⟩
      case round =>
        clear HA
        obtain ⟨k, hk, rfl, hinv⟩ := hrel
        have HI := Aside0.mk hinv
        by_cases hlt : k < 8
        · have h8 : k = 0 ∨ k = 1 ∨ k = 2 ∨ k = 3 ∨ k = 4 ∨ k = 5 ∨ k = 6 ∨ k = 7 := by omega
          clear hk hlt hinv
          rcases h8 with rfl | rfl | rfl | rfl | rfl | rfl | rfl | rfl
          · go_wp2_with (fail)
            refine (write1 HI.out _ (by omega) _ (by have := take_n stz (sizeB (8 * n)) 0; have := HBN.out; omega)).mono ?_
            rintro e w2 ⟨rfl, h2⟩
            rw [snoc_at (by rw [sizeB_len]; omega) (by show ((8 * n / 2 ^ (56 - 8 * 0) % 256 : Nat) : Int) = _; simp only [Nat.reduceMul, Nat.reduceSub, Nat.reducePow]; omega)] at h2
            have H2 := Aside0.mk h2
            clear h2
            go_wp2_with (fail)
            go_roundw
            case rel => exact ⟨1, by omega, rfl, H2.out⟩
            case measure => simp [intOf]
          · go_wp2_with (fail)
            refine (write1 HI.out _ (by omega) _ (by have := take_n stz (sizeB (8 * n)) 1; have := HBN.out; omega)).mono ?_
            rintro e w2 ⟨rfl, h2⟩
            rw [snoc_at (by rw [sizeB_len]; omega) (by show ((8 * n / 2 ^ (56 - 8 * 1) % 256 : Nat) : Int) = _; simp only [Nat.reduceMul, Nat.reduceSub, Nat.reducePow]; omega)] at h2
            have H2 := Aside0.mk h2
            clear h2
            go_wp2_with (fail)
            go_roundw
            case rel => exact ⟨2, by omega, rfl, H2.out⟩
            case measure => simp [intOf]
          · go_wp2_with (fail)
            refine (write1 HI.out _ (by omega) _ (by have := take_n stz (sizeB (8 * n)) 2; have := HBN.out; omega)).mono ?_
            rintro e w2 ⟨rfl, h2⟩
            rw [snoc_at (by rw [sizeB_len]; omega) (by show ((8 * n / 2 ^ (56 - 8 * 2) % 256 : Nat) : Int) = _; simp only [Nat.reduceMul, Nat.reduceSub, Nat.reducePow]; omega)] at h2
            have H2 := Aside0.mk h2
            clear h2
            go_wp2_with (fail)
            go_roundw
            case rel => exact ⟨3, by omega, rfl, H2.out⟩
            case measure => simp [intOf]
          · go_wp2_with (fail)
            refine (write1 HI.out _ (by omega) _ (by have := take_n stz (sizeB (8 * n)) 3; have := HBN.out; omega)).mono ?_
            rintro e w2 ⟨rfl, h2⟩
            rw [snoc_at (by rw [sizeB_len]; omega) (by show ((8 * n / 2 ^ (56 - 8 * 3) % 256 : Nat) : Int) = _; simp only [Nat.reduceMul, Nat.reduceSub, Nat.reducePow]; omega)] at h2
            have H2 := Aside0.mk h2
            clear h2
            go_wp2_with (fail)
            go_roundw
            case rel => exact ⟨4, by omega, rfl, H2.out⟩
            case measure => simp [intOf]
          · go_wp2_with (fail)
            refine (write1 HI.out _ (by omega) _ (by have := take_n stz (sizeB (8 * n)) 4; have := HBN.out; omega)).mono ?_
            rintro e w2 ⟨rfl, h2⟩
            rw [snoc_at (by rw [sizeB_len]; omega) (by show ((8 * n / 2 ^ (56 - 8 * 4) % 256 : Nat) : Int) = _; simp only [Nat.reduceMul, Nat.reduceSub, Nat.reducePow]; omega)] at h2
            have H2 := Aside0.mk h2
            clear h2
            go_wp2_with (fail)
            go_roundw
            case rel => exact ⟨5, by omega, rfl, H2.out⟩
            case measure => simp [intOf]
          · go_wp2_with (fail)
            refine (write1 HI.out _ (by omega) _ (by have := take_n stz (sizeB (8 * n)) 5; have := HBN.out; omega)).mono ?_
            rintro e w2 ⟨rfl, h2⟩
            rw [snoc_at (by rw [sizeB_len]; omega) (by show ((8 * n / 2 ^ (56 - 8 * 5) % 256 : Nat) : Int) = _; simp only [Nat.reduceMul, Nat.reduceSub, Nat.reducePow]; omega)] at h2
            have H2 := Aside0.mk h2
            clear h2
            go_wp2_with (fail)
            go_roundw
            case rel => exact ⟨6, by omega, rfl, H2.out⟩
            case measure => simp [intOf]
          · go_wp2_with (fail)
            refine (write1 HI.out _ (by omega) _ (by have := take_n stz (sizeB (8 * n)) 6; have := HBN.out; omega)).mono ?_
            rintro e w2 ⟨rfl, h2⟩
            rw [snoc_at (by rw [sizeB_len]; omega) (by show ((8 * n / 2 ^ (56 - 8 * 6) % 256 : Nat) : Int) = _; simp only [Nat.reduceMul, Nat.reduceSub, Nat.reducePow]; omega)] at h2
            have H2 := Aside0.mk h2
            clear h2
            go_wp2_with (fail)
            go_roundw
            case rel => exact ⟨7, by omega, rfl, H2.out⟩
            case measure => simp [intOf]
          · go_wp2_with (fail)
            refine (write1 HI.out _ (by omega) _ (by have := take_n stz (sizeB (8 * n)) 7; have := HBN.out; omega)).mono ?_
            rintro e w2 ⟨rfl, h2⟩
            rw [snoc_at (by rw [sizeB_len]; omega) (by show ((8 * n / 2 ^ (56 - 8 * 7) % 256 : Nat) : Int) = _; simp only [Nat.reduceMul, Nat.reduceSub, Nat.reducePow]; omega)] at h2
            have H2 := Aside0.mk h2
            clear h2
            go_wp2_with (fail)
            go_roundw
            case rel => exact ⟨8, by omega, rfl, H2.out⟩
            case measure => simp [intOf]
        · have HKE := Aside0.mk (show k = 8 by omega)
          have hge : 8 ≤ k := by omega
          have hdk : decide ((k : Int) < 8) = false := decide_eq_false (by omega)
          obtain ⟨stf, hstf⟩ : ∃ y, List.foldl put stz ((sizeB (8 * n)).take k) = y := ⟨_, rfl⟩
          have HSF := Aside0.mk (show stf = List.foldl put (s, r, n) (padB n) by
            rw [← hstf, HKE.out, ← HST.out, HGK.out, List.take_of_length_le (by rw [sizeB_len]; omega), ← HZ.out]
            rw [padB, List.foldl_cons, List.foldl_append])
          rw [hstf] at HI
          have HO := Aside0.mk (show OInv w gE p2 p3 stf 0 wr from ⟨HI.out.1, HI.out.2.1, HI.out.2.2.1, HI.out.2.2.2.1, HI.out.2.2.2.2.2.1, HI.out.2.2.2.2.2.2.1, HI.out.2.2.2.2.2.2.2.1, HI.out.2.2.2.2.2.2.2.2⟩)
          clear hinv hlt hk hstf HI
          go_wp2_with (fail)
          clear hge hdk
          go_loopw [7, 46] (fun _ i wx => ∃ m : Nat, m ≤ 32 ∧ i = .int .i64 m ∧ OInv w gE p2 p3 stf m wx) (fun _ i _ => 32 - (intOf i).toNat)
          case atStart => exact ⟨0, by omega, rfl, HO.out⟩
          case round =>
            clear HO
            obtain ⟨m, hm, rfl, hinv⟩ := hrel
            have HO := Aside0.mk hinv
            by_cases hlt : m < 32
            · obtain ⟨q, hq⟩ : ∃ q, m / 4 = q := ⟨_, rfl⟩
              have HQ := Aside0.mk hq
              have hc := hinv.1.state q (by omega)
              have hxr := hinv.1.2.2.2.2.1.at q
              have hcell : wr.cell? ⟨p3, m, none⟩ = some (.int .u8 ((outN stf.1 m).getD m 0)) := by
                rw [blk_cell hinv.2.2.2.1 m]
                simp [nums, List.getElem?_eq_getElem (show m < (outN stf.1 m).length by rw [outN_len]; omega), List.getD_eq_getElem?_getD]
              have hfree := blk_frozen hinv.2.2.2.1 m
              obtain ⟨x, hx⟩ : ∃ x, stf.1.getD q 0 = x := ⟨_, rfl⟩
              obtain ⟨old, hold⟩ : ∃ x, (outN stf.1 m).getD m 0 = x := ⟨_, rfl⟩
              rw [hx] at hc hxr
              rw [hold] at hcell
              have HX := Aside0.mk hx
              have x0 := hxr.1
              have x1 := hxr.2
              have hqi : (m : Int) / 4 = (q : Int) := by omega
              have q0 : (0 : Int) ≤ (q : Int) := by omega
              have q1 : (q : Int) < 8 := by omega
              have m0 : (0 : Int) ≤ (m : Int) := by omega
              have m1 : (m : Int) < 32 := by omega
              have hr4 : m % 4 = 0 ∨ m % 4 = 1 ∨ m % 4 = 2 ∨ m % 4 = 3 := by omega
              clear hinv hold hxr hq hx
              rcases hr4 with hr4 | hr4 | hr4 | hr4
              · have hri : (m : Int) % 4 = 0 := by omega
                have HR4 := Aside0.mk hr4
                clear hr4
                go_wp2
                go_roundw
                case rel => exact ⟨m + 1, by omega, by go_num, HO.out.next (by rw [HQ.out, HX.out, HR4.out]; simp only [Nat.reduceMul, Nat.reduceSub, Int.reducePow] <;> omega)⟩
                case measure => simp [intOf]; omega
              · have hri : (m : Int) % 4 = 1 := by omega
                have HR4 := Aside0.mk hr4
                clear hr4
                go_wp2
                go_roundw
                case rel => exact ⟨m + 1, by omega, by go_num, HO.out.next (by rw [HQ.out, HX.out, HR4.out]; simp only [Nat.reduceMul, Nat.reduceSub, Int.reducePow] <;> omega)⟩
                case measure => simp [intOf]; omega
              · have hri : (m : Int) % 4 = 2 := by omega
                have HR4 := Aside0.mk hr4
                clear hr4
                go_wp2
                go_roundw
                case rel => exact ⟨m + 1, by omega, by go_num, HO.out.next (by rw [HQ.out, HX.out, HR4.out]; simp only [Nat.reduceMul, Nat.reduceSub, Int.reducePow] <;> omega)⟩
                case measure => simp [intOf]; omega
              · have hri : (m : Int) % 4 = 3 := by omega
                have HR4 := Aside0.mk hr4
                clear hr4
                go_wp2
                go_roundw
                case rel => exact ⟨m + 1, by omega, by go_num, HO.out.next (by rw [HQ.out, HX.out, HR4.out]; simp only [Nat.reduceMul, Nat.reduceSub, Int.reducePow] <;> omega)⟩
                case measure => simp [intOf]; omega
            · have HM := Aside0.mk (show m = 32 by omega)
              have hge : 32 ≤ m := by omega
              obtain ⟨D, hD⟩ : ∃ D, (nums .u8 (outN stf.1 m)).toArray = D := ⟨_, rfl⟩
              obtain ⟨Z, hZ⟩ : ∃ Z, (nums .u8 (List.replicate 32 0)).toArray = Z := ⟨_, rfl⟩
              have h3 := hinv.2.2.2.1
              have h2 := hinv.2.2.1
              rw [hD] at h3
              rw [hZ] at h2
              have H3 := Aside0.mk h3
              have H2 := Aside0.mk h2
              have hds : D.size = 32 := by rw [← hD]; simp [nums, outN_len]
              have hzs : Z.size = D.size := by rw [hds, ← hZ]; simp [nums]
              have HI := Aside0.mk (show (Try.prog.info? 23).map (·.size) = some D.size by rw [hds]; exact info_32)
              have HZS := Aside0.mk hzs
              have HONE := Aside0.mk (show D.all (·.oneCell') = true by rw [← hD]; exact nums_one _ _)
              have HBL := Aside0.mk (And.intro hinv.2.1 hinv.2.2.2.2.2.2.1)
              have HFIN := Aside0.mk (show D = (nums .u8 (sumB (s, r, n))).toArray by rw [← hD, HM.out, sumB, ← HSF.out]; rfl)
              clear hD hZ h3 h2 hds hzs hlt hm hinv
              go_wp2_with (first
                | ((with_reducible refine gate_dst (N := 63) rfl ?_); refine wpList_load_row rfl 23 (.tmp 3) rfl p3 rfl 23 D (0, 0) _ H3.out Try.underlying23 rfl HI.out ?_)
                | ((with_reducible refine gate_store (t := 23) (p := 2) (v := .tmp 63) rfl ?_); refine wpList_store_row rfl 23 (.tmp 2) (.tmp 63) rfl p2 D rfl rfl 23 Z H2.out HI.out HZS.out HONE.out ?_))
              have HSR := setRow_heap wr p2 Z D _ _ H2.out
              refine bodyPost_ret (v := .agg D) (results_cell_row rfl _ _ p2 23 D (0, 0) _ rfl HSR Try.underlying23 rfl HI.out) rfl ⟨by rw [HFIN.out], below_setRow HBL.out.1 HBL.out.2 D⟩
    · have hbq : ((q : Int) == 56) = false := by simp; omega
      have hbn : ((q : Int) != 56) = true := by simp; omega
      have HGK := Aside0.mk (show 0 < gk by omega)
      have HB := Aside0.mk (show stz.2.2 ≤ 2000000000000 by omega)
      have HGZ := Aside0.mk hgk
      clear hinv hst hnn hq h56 hz hN hgk
      go_wp2_with (fail)
      refine (write1 HI.out 0 (by omega) _ HB.out).mono ?_
      rintro e w2 ⟨rfl, h2⟩
      have H2 := Aside0.mk h2
      clear h2 hcn
      go_wp2_with (fail)
      go_roundg (gk - 1)
      case measure => have := HGK.out; omega
      case rel =>
        refine ⟨by have := HGZ.out; omega, ?_⟩
        rw [show z - (gk - 1) = (z - gk) + 1 from by have := HGZ.out; have := HGK.out; omega, List.replicate_succ', List.foldl_append, HST.out]
        exact H2.out
end Go.Proofs.Ytfpkgdenohcglaa.Sha
/- sha: Of walked. -/
namespace Go.Proofs.Ytfpkgdenohcglaa.Sha
set_option linter.unusedVariables false
open Go.RowKit Go.Proofs.Ytfpkgdenohcglaa.Base Go.Proofs.Ytfpkgdenohcglaa.ShaPlain Go.Proofs.Ytfpkgdenohcglaa.Aid Go.Proofs.YtfpkgdenohcglaaW.PrintWords Go.Proofs.YtfpkgdenohcglaaW.PrintLast Go.Proofs.YtfpkgdenohcglaaW.PrintMore
def st0 : St := (ShaPlain.start, List.replicate 64 0, 0)
/-- The sum of bytes. -/
def shaB (b : List Int) : List Int := sumB (b.foldl put st0)
theorem shaB_len (b : List Int) : (shaB b).length = 32 := outN_len _ _
theorem shaB_u8 (b : List Int) : ∀ x ∈ shaB b, 0 ≤ x ∧ x ≤ 255 := outN_u8 _ _
theorem rows_at {w : World} {A : Option Addr} {l : List (List Int)} (h : Rr w A l) (k : Nat) (hk : k < l.length) : ∃ ad A1 c1, A = some ad ∧ w.cell? (ad.add k) = some (.slice A1 l[k].length c1) ∧ l[k].length ≤ c1 ∧ Rb w A1 l[k] := by
  obtain ⟨ad, hA, hc⟩ := h.2.2 (by omega)
  obtain ⟨cs, hl, ⟨A1, c1, hcs, h2, h3⟩, h4⟩ := hc k l[k] (List.getElem?_eq_getElem hk)
  refine ⟨ad, A1, c1, hA, ?_, h2, h3⟩
  have := h4 0 (.slice A1 l[k].length c1) (by rw [hcs]; rfl)
  rwa [show k * (Kd.slice 5 (Kd.int .u8)).sz + 0 = k from by show k * 1 + 0 = k; omega] at this
theorem reads_lt {w : World} {A : Option Addr} {b : List Int} (h : Rb w A b) : ∀ a, A = some a → 0 < b.length → a.block < w.heap.size := by
  intro a ha h0
  obtain ⟨ad, e, hc⟩ := Kd.at_int h 0 (by omega) (by omega)
  rw [ha] at e
  injection e with e
  subst e
  have := World.block_lt_of_cell? _ _ hc
  rwa [show (a.add (0 : Int).toNat).block = a.block from by unfold Addr.add; split <;> rfl] at this
def OfInv (w : World) (g : Nat) (st : St) (W : World) : Prop := HS w W g st ∧ Below w.heap.size w W ∧ W.heap[w.heap.size]? = some (.cells (nums .u8 (List.replicate 32 0)).toArray 23 (0, 0)) ∧ w.heap.size ≠ g
theorem flat_take (l : List (List Int)) (k : Nat) (hk : k < l.length) : (l.take (k + 1)).flatten = (l.take k).flatten ++ l[k] := by
  rw [Aid.take_snoc l k hk, List.flatten_append]; simp
set_option maxHeartbeats 4000000 in
set_option maxRecDepth 100000 in
theorem of_c (A : Option Addr) (c : Nat) (l : List (List Int)) (w : World) (hr : Rr w A l) (hc : l.length ≤ c) (hu : ∀ p ∈ l, ∀ x ∈ p, 0 ≤ x ∧ x ≤ 255) (hn : l.flatten.length ≤ 1000000000000) (hl : l.length ≤ 4611686018427387904) :
    Calls Try.prog 102 #[.slice A l.length c] w fun e w' => e = .returned (.agg (nums .u8 (shaB l.flatten)).toArray) ∧ Below w.heap.size w w' := by
  have HR := Aside0.mk hr
  have HU := Aside0.mk hu
  have HN := Aside0.mk hn
  clear hr hu hn
  go_enter Try.func102, Try.ntmps102
  go_wp2_with (fail)
  refine (new_c _).mono ?_
  rintro e w1 ⟨g, rfl, hh, hb⟩
  have hz : (w.alloc (.cells (nums .u8 (List.replicate 32 0)).toArray 23)).heap[w.heap.size]? = _ := blk_new w _
  have hsz : (w.alloc (.cells (nums .u8 (List.replicate 32 0)).toArray 23)).heap.size = w.heap.size + 1 := by simp
  have hge : w.heap.size + 1 ≤ g := by rw [← hsz]; exact hh.1
  have H0 := Aside0.mk (show OfInv w g (List.foldl put st0 ((l.take 0).flatten)) w1 from ⟨⟨by omega, hh.2⟩, below_step (below_alloc (Below.refl _ _) _) hb, blk_below hz hb, by omega⟩)
  clear hh hb hz hsz hge
  go_wp2_with (fail)
  go_loopw [5, 9] (fun _ i wx => ∃ k : Nat, k ≤ l.length ∧ i = .int .i64 k ∧ OfInv w g (List.foldl put st0 ((l.take k).flatten)) wx) (fun _ i _ => l.length - (intOf i).toNat)
  case atStart => exact ⟨0, by omega, rfl, H0.out⟩
  case round =>
    clear H0
    obtain ⟨k, hk, rfl, hinv⟩ := hrel
    have HI := Aside0.mk hinv
    by_cases hlt : k < l.length
    · obtain ⟨ad, A1, c1, rfl, hcell, hc1, hrd⟩ := rows_at HR.out k hlt
      have hcw := (hinv.2.1.cell (World.block_lt_of_cell? _ _ hcell)).trans hcell
      have HP := Aside0.mk (Kd.C_below hrd hinv.2.1)
      have HC1 := Aside0.mk hc1
      have HNE := Aside0.mk (show ∀ a, A1 = some a → 0 < l[k].length → a.block ≠ g from fun a ha h0 => by
        have h1 := reads_lt hrd a ha h0
        have h2 := hinv.1.1
        omega)
      have HUK := Aside0.mk (HU.out l[k] (List.getElem_mem hlt))
      have HBN := Aside0.mk (show (List.foldl put st0 ((l.take k).flatten)).2.2 + l[k].length ≤ 1152921504606846976 by
        rw [puts_n]
        have h1 := congrArg List.length (flat_take l k hlt)
        have h2 : l.flatten.length = (l.take (k + 1)).flatten.length + (l.drop (k + 1)).flatten.length := by rw [← List.length_append, ← List.flatten_append, List.take_append_drop]
        have h3 := HN.out
        rw [List.length_append] at h1
        show 0 + (l.take k).flatten.length + _ ≤ _
        omega)
      obtain ⟨p, hp⟩ : ∃ p, l[k] = p := ⟨_, rfl⟩
      have HPE := Aside0.mk hp
      rw [hp] at hcw HP HC1 HNE HUK HBN
      clear hcell hc1 hrd hinv hp
      go_wp2_with (fail)
      refine (write_c w _ g _ A1 c1 p HI.out.1 HI.out.2.1 HP.out HC1.out HUK.out HNE.out HBN.out).mono ?_
      rintro e w2 ⟨rfl, h1, h2, h3⟩
      have HF := Aside0.mk (show OfInv w g (List.foldl put st0 ((l.take (k + 1)).flatten)) w2 from by
        refine ⟨?_, h2, h3.blk HI.out.2.2.1 HI.out.2.2.2 (by simp), HI.out.2.2.2⟩
        rw [flat_take l k hlt, List.foldl_append, HPE.out]
        exact h1)
      clear h1 h2 h3 hcw
      go_wp2_with (fail)
      go_roundw
      case rel => exact ⟨k + 1, by omega, by go_num, HF.out⟩
      case measure => simp [intOf]; omega
    · have HKE := Aside0.mk (show l.take k = l from List.take_of_length_le (by omega))
      have hge : l.length ≤ k := by omega
      have hi := hinv
      rw [HKE.out] at hi
      have HJ := Aside0.mk hi
      clear hinv hlt hk hi HI
      go_wp2_with (fail)
      have hj := HJ.out.1
      have hpn := puts_n l.flatten st0
      refine (sum_c wr g _ hj.2.1 hj.2.2.1 hj.2.2.2.1 hj.2.2.2.2.1 hj.2.2.2.2.2 (by rw [hpn]; have := HN.out; show 0 + _ ≤ _; omega)).mono ?_
      rintro e w3 ⟨rfl, h1⟩
      obtain ⟨D, hD⟩ : ∃ D, (nums .u8 (sumB (List.foldl put st0 l.flatten))).toArray = D := ⟨_, rfl⟩
      have hds : D.size = 32 := by rw [← hD]; simp [nums, sumB, outB, outN_len]
      have HI := Aside0.mk (show (Try.prog.info? 23).map (·.size) = some D.size by rw [hds]; exact info_32)
      have HONE := Aside0.mk (show D.all (·.oneCell') = true by rw [← hD]; exact nums_one _ _)
      have HFIN := Aside0.mk (show (nums .u8 (shaB l.flatten)).toArray = D from hD)
      obtain ⟨Z, hZ⟩ : ∃ Z, (nums .u8 (List.replicate 32 0)).toArray = Z := ⟨_, rfl⟩
      have h2 := blk_below HJ.out.2.2.1 h1
      rw [hZ] at h2
      have H2 := Aside0.mk h2
      have HZS := Aside0.mk (show Z.size = D.size by rw [hds, ← hZ]; simp [nums])
      have HBL := Aside0.mk (below_step HJ.out.2.1 h1)
      rw [hD]
      clear hj hpn hD hds hZ h1 h2
      go_wp2_with ((with_reducible refine gate_store (t := 23) (p := 2) (v := .tmp 18) rfl ?_); refine wpList_store_row rfl 23 (.tmp 2) (.tmp 18) rfl w.heap.size D rfl rfl 23 Z H2.out HI.out HZS.out HONE.out ?_)
      have HSR := setRow_heap w3 w.heap.size Z D _ _ H2.out
      refine bodyPost_ret (v := .agg D) (results_cell_row rfl _ _ w.heap.size 23 D (0, 0) _ rfl HSR Try.underlying23 rfl HI.out) rfl ⟨by rw [HFIN.out], below_setRow HBL.out (Nat.le_refl _) D⟩
end Go.Proofs.Ytfpkgdenohcglaa.Sha
/- sha: Hex walked. -/
namespace Go.Proofs.Ytfpkgdenohcglaa.Sha
set_option linter.unusedVariables false
open Go.RowKit Go.Proofs.Ytfpkgdenohcglaa.Base Go.Proofs.Ytfpkgdenohcglaa.ShaPlain Go.Proofs.Ytfpkgdenohcglaa.Aid Go.Proofs.YtfpkgdenohcglaaW.PrintWords Go.Proofs.YtfpkgdenohcglaaW.PrintLast Go.Proofs.YtfpkgdenohcglaaW.PrintMore
end Go.Proofs.Ytfpkgdenohcglaa.Sha
/- The sums of the page's examples. -/
namespace Go.Proofs.Ytfpkgdenohcglaa.Sha
open Go.RowKit Go.Proofs.Ytfpkgdenohcglaa.Base Go.Proofs.Ytfpkgdenohcglaa.ShaPlain
set_option maxRecDepth 100000
end Go.Proofs.Ytfpkgdenohcglaa.Sha
/- The example of layer 2. -/
namespace Go.Proofs.Ytfpkgdenohcglaa.Sha
set_option linter.unusedVariables false
open Go.RowKit Go.Proofs.Ytfpkgdenohcglaa.Base Go.Proofs.Ytfpkgdenohcglaa.ShaPlain Go.Proofs.Ytfpkgdenohcglaa.Aid Go.Proofs.YtfpkgdenohcglaaW.PrintWords Go.Proofs.YtfpkgdenohcglaaW.PrintLast Go.Proofs.YtfpkgdenohcglaaW.PrintMore
/-- Rows that were written out in memory. -/
theorem lit_rr {w : World} {g T : Nat} {cells : Array Value} (hg : w.heap[g]? = some (.cells cells T (0, 0))) (xs : List (List Int)) (hm : xs.length ≤ 9223372036854775807)
    (hi : ∀ (j : Nat) (l : List Int), xs[j]? = some l → ∃ A c, cells[j]? = some (Value.slice A l.length c) ∧ l.length ≤ c ∧ Rb w A l) : Rr w (some ⟨g, 0, none⟩) xs := by
  refine ⟨rfl, hm, fun _ => ⟨_, rfl, fun j l hj => ?_⟩⟩
  obtain ⟨A, c, h1, h2, h3⟩ := hi j l hj
  refine ⟨[.slice A l.length c], rfl, ⟨A, c, rfl, h2, h3⟩, fun i u hu => ?_⟩
  have hi0 : i = 0 := by
    have := (List.getElem?_eq_some_iff.1 hu).1
    simp at this
    exact this
  subst hi0
  rw [show j * (Kd.slice 5 (Kd.int .u8)).sz + 0 = j from by show j * 1 + 0 = j; omega, add_plain, blk_cell hg, h1]
  exact hu
end Go.Proofs.Ytfpkgdenohcglaa.Sha
/- Whether two sums are the same. -/
namespace Go.Proofs.Ytfpkgdenohcglaa.Sha
set_option linter.unusedVariables false
open Go.RowKit Go.Proofs.Ytfpkgdenohcglaa.Base Go.Proofs.Ytfpkgdenohcglaa.ShaPlain Go.Proofs.Ytfpkgdenohcglaa.Aid Go.Proofs.YtfpkgdenohcglaaW.PrintWords Go.Proofs.YtfpkgdenohcglaaW.PrintLast Go.Proofs.YtfpkgdenohcglaaW.PrintMore
theorem cells_u8 : Try.prog.cellsOf 5 = 1 := by kernel_rfl
theorem plain_u8 : Try.prog.plainKey 5 = true := by kernel_rfl
theorem guard_32 : Try.prog.eqGuardType Try.prog.depth 23 = false := by kernel_rfl
/-- A sum's value. -/
abbrev sumV (a : List Int) : Value := .agg (nums .u8 a).toArray
theorem nums_get (a : List Int) (i : Nat) (hi : i < a.length) : (nums .u8 a).toArray[i]? = some (.int .u8 (a.getD i 0)) := by
  simp [nums, List.getElem?_eq_getElem hi, List.getD_eq_getElem?_getD]
theorem run_items (d : Nat) (a b : List Int) (w : World) : ∀ is : List Nat, (∀ i ∈ is, i < a.length ∧ i < b.length) →
    (Op.eqItems (d + 1) 5 1 (nums .u8 a).toArray (nums .u8 b).toArray is).run Try.prog w = .ok (is.all fun i => a.getD i 0 == b.getD i 0) w := by
  intro is
  induction is with
  | nil => intro _; simp [Op.eqItems]
  | cons i is ih =>
    intro h
    have hi := h i (List.mem_cons_self ..)
    have p1 := run_part_plain (P := Try.prog) (w := w) (e := 5) plain_u8 (nums_get a i hi.1)
    have p2 := run_part_plain (P := Try.prog) (w := w) (e := 5) plain_u8 (nums_get b i hi.2)
    have p3 := run_equalIn_int (P := Try.prog) w d 5 .u8 .u8 (a.getD i 0) (b.getD i 0) Try.underlying5
    have ih' := ih (fun j hj => h j (List.mem_cons_of_mem _ hj))
    simp only [Op.eqItems, Sem.run_bind, Nat.mul_one, p1, p2, p3, Result.andThen_ok, List.all_cons]
    cases e : (a.getD i 0 == b.getD i 0) with
    | false => simp
    | true => simpa using ih'
theorem all_range (a b : List Int) (ha : a.length = 32) (hb : b.length = 32) : ((List.range 32).all fun i => a.getD i 0 == b.getD i 0) = decide (a = b) := by
  rw [Bool.eq_iff_iff, List.all_eq_true, decide_eq_true_eq]
  constructor
  · intro h
    apply List.ext_getElem (by omega)
    intro i h1 h2
    have := h i (List.mem_range.2 (by omega))
    simp only [beq_iff_eq, List.getD_eq_getElem?_getD, List.getElem?_eq_getElem h1, List.getElem?_eq_getElem h2] at this
    exact this
  · rintro rfl i _
    simp
theorem run_eq_sum (a b : List Int) (ha : a.length = 32) (hb : b.length = 32) (w : World) : (Op.equalIn 10000 23 (sumV a) (sumV b)).run Try.prog w = .ok (decide (a = b)) w := by
  obtain ⟨i, hi⟩ := info_of_underlying Try.underlying5
  have h := run_equalIn_array (P := Try.prog) w 9999 (nums .u8 a).toArray (nums .u8 b).toArray Try.underlying23 hi
  rw [h, cells_u8, run_items 9998 a b w (List.range 32) (fun i hi => by have := List.mem_range.1 hi; omega), all_range a b ha hb]
end Go.Proofs.Ytfpkgdenohcglaa.Sha
/- ShaParts: the law's walk. -/
namespace Go.Proofs.Ytfpkgdenohcglaa.Sha
set_option linter.unusedVariables false
open Go.RowKit Go.Proofs.Ytfpkgdenohcglaa.Base Go.Proofs.Ytfpkgdenohcglaa.ShaPlain Go.Proofs.Ytfpkgdenohcglaa.Aid Go.Proofs.YtfpkgdenohcglaaW.PrintWords Go.Proofs.YtfpkgdenohcglaaW.PrintLast Go.Proofs.YtfpkgdenohcglaaW.PrintMore
theorem byte_wf {x : Int} (h : (Lit.int .u8 x).wf = true) : 0 ≤ x ∧ x ≤ 255 := by
  simp only [Lit.wf, IntKind.min, IntKind.max, IntKind.signed, IntKind.bits, Bool.and_eq_true] at h
  have h1 := of_decide_eq_true h.1
  have h2 := of_decide_eq_true h.2
  simp at h1 h2
  omega
end Go.Proofs.Ytfpkgdenohcglaa.Sha
/- Words turned to the right, as regions that draw ask it. -/
namespace Go.Proofs.Ytfpkgdenohcglaa.Sha
set_option linter.unusedVariables false
open Go.RowKit Go.Proofs.Ytfpkgdenohcglaa.Base Go.Proofs.Ytfpkgdenohcglaa.ShaPlain Go.Proofs.YtfpkgdenohcglaaW.PrintWords Go.Proofs.YtfpkgdenohcglaaW.PrintLast Go.Proofs.YtfpkgdenohcglaaW.PrintMore
end Go.Proofs.Ytfpkgdenohcglaa.Sha
/- The document's keys walked. -/
namespace Go.Proofs.Ytfpkgdenohcglaa.Sha
set_option linter.unusedVariables false
open Go.RowKit Go.Proofs.Ytfpkgdenohcglaa.Base Go.Proofs.Ytfpkgdenohcglaa.ShaPlain Go.Proofs.Ytfpkgdenohcglaa.Aid Go.Proofs.YtfpkgdenohcglaaW.PrintWords Go.Proofs.YtfpkgdenohcglaaW.PrintLast Go.Proofs.YtfpkgdenohcglaaW.PrintMore
end Go.Proofs.Ytfpkgdenohcglaa.Sha
/- The document's words of a block walked. -/
namespace Go.Proofs.Ytfpkgdenohcglaa.Sha
set_option linter.unusedVariables false
open Go.RowKit Go.Proofs.Ytfpkgdenohcglaa.Base Go.Proofs.Ytfpkgdenohcglaa.ShaPlain Go.Proofs.Ytfpkgdenohcglaa.Aid Go.Proofs.YtfpkgdenohcglaaW.PrintWords Go.Proofs.YtfpkgdenohcglaaW.PrintLast Go.Proofs.YtfpkgdenohcglaaW.PrintMore
theorem second_new' (w : World) (Z o : Obj) : ((w.alloc Z).alloc o).heap[w.heap.size + 1]? = some o := by
  have h := blk_new (w.alloc Z) o
  simpa using h
def zeros64 : Array Value := (nums .u32 (List.replicate 64 0)).toArray
/-- The words under way: the variable (block p), and the answer's cells. -/
def RInv (w : World) (b : List Int) (k : Nat) (wr : World) : Prop := Words wr (w.heap.size + 1) 119 (fill b k) ∧ wr.heap[w.heap.size]? = some (.cells zeros64 119 (0, 0)) ∧ Below w.heap.size w wr
theorem RInv.next {w : World} {b : List Int} {k : Nat} {wr : World} (h : RInv w b k wr) {v : Int} (hv : v = ShaPlain.next b (fill b k) k) : RInv w b (k + 1) (wr.drew.setCell ⟨w.heap.size + 1, k, none⟩ (.int .u32 v)) := by
  subst hv
  refine ⟨Words.set (w := wr.drew) h.1 k _, ?_, below_set (below_drew1 h.2.2) (by omega)⟩
  exact (Below.heap_setCell wr.drew ⟨w.heap.size + 1, k, none⟩ _ w.heap.size (by show w.heap.size ≠ w.heap.size + 1; omega)).trans h.2.1
end Go.Proofs.Ytfpkgdenohcglaa.Sha
/- The document's block walked. -/
namespace Go.Proofs.Ytfpkgdenohcglaa.Sha
set_option linter.unusedVariables false
open Go.RowKit Go.Proofs.Ytfpkgdenohcglaa.Base Go.Proofs.Ytfpkgdenohcglaa.ShaPlain Go.Proofs.Ytfpkgdenohcglaa.Aid Go.Proofs.YtfpkgdenohcglaaW.PrintWords Go.Proofs.YtfpkgdenohcglaaW.PrintLast Go.Proofs.YtfpkgdenohcglaaW.PrintMore
theorem row_other {w : World} {q g : Nat} {o : Obj} {cs : Array Value} (hb : w.heap[q]? = some o) (hne : q ≠ g) : (w.setRow g cs).heap[q]? = some o := (setRow_other w g q cs hne).trans hb
/-- The cells of block's variables: the state, the answer, the words, the keys (q, q + 1) and the eight words under way (p). -/
def KInv (w : World) (q p : Nat) (s ws v : List Int) (wr : World) : Prop :=
  Words wr w.heap.size 107 s ∧ Words wr (w.heap.size + 1) 107 (List.replicate 8 0) ∧ Words wr q 119 ws ∧ Words wr (q + 1) 119 keys ∧ Words wr p 107 v ∧ w.heap.size + 2 ≤ q ∧ q + 2 ≤ p ∧ Below w.heap.size w wr
theorem KInv.drewN {w wr : World} {q p : Nat} {s ws v : List Int} (h : KInv w q p s ws v wr) (m : Nat) : KInv w q p s ws v (wr.drewN m) := ⟨h.1, h.2.1, h.2.2.1, h.2.2.2.1, h.2.2.2.2.1, h.2.2.2.2.2.1, h.2.2.2.2.2.2.1, pw_below_drewN h.2.2.2.2.2.2.2 m⟩
theorem KInv.row {w wr : World} {q p : Nat} {s ws v v' : List Int} (h : KInv w q p s ws v wr) : KInv w q p s ws v' (wr.setRow p (nums .u32 v').toArray) := by
  obtain ⟨h1, h2, h3, h4, h5, h6, h7, h8⟩ := h
  exact ⟨row_other h1 (by omega), row_other h2 (by omega), row_other h3 (by omega), row_other h4 (by omega), setRow_heap _ _ _ _ _ _ h5, h6, h7, below_setRow h8 (by omega) _⟩
theorem KInv.next {w wr : World} {q p k : Nat} {s ws : List Int} {v0 v1 v2 v3 v4 v5 v6 v7 X Y : Int} (h : KInv w q p s ws [v0, v1, v2, v3, v4, v5, v6, v7] wr) (hr : rounds s ws (k + 1) = [X, v0, v1, v2, Y, v4, v5, v6]) :
    KInv w q p s ws (rounds s ws (k + 1)) (wr.setRow p #[.int .u32 X, .int .u32 v0, .int .u32 v1, .int .u32 v2, .int .u32 Y, .int .u32 v4, .int .u32 v5, .int .u32 v6]) := by
  rw [hr]
  exact h.row
end Go.Proofs.Ytfpkgdenohcglaa.Sha
/- Bytes put one by one are blocks taken in: plain. -/
namespace Go.Proofs.Ytfpkgdenohcglaa.Sha
set_option linter.unusedVariables false
open Go.RowKit Go.Proofs.Ytfpkgdenohcglaa.Base Go.Proofs.Ytfpkgdenohcglaa.ShaPlain Go.Proofs.Ytfpkgdenohcglaa.Aid Go.Proofs.YtfpkgdenohcglaaW.PrintWords
/-- The state behind the first i blocks of bytes. -/
def blocks (L : List Int) : Nat → List Int
  | 0 => ShaPlain.start
  | i + 1 => press (blocks L i) ((L.drop (64 * i)).take 64)
end Go.Proofs.Ytfpkgdenohcglaa.Sha
/- The document's sum walked. -/
namespace Go.Proofs.Ytfpkgdenohcglaa.Sha
set_option linter.unusedVariables false
open Go.RowKit Go.Proofs.Ytfpkgdenohcglaa.Base Go.Proofs.Ytfpkgdenohcglaa.ShaPlain Go.Proofs.Ytfpkgdenohcglaa.Aid Go.Proofs.YtfpkgdenohcglaaW.PrintWords Go.Proofs.YtfpkgdenohcglaaW.PrintLast Go.Proofs.YtfpkgdenohcglaaW.PrintMore
abbrev Z32 : Array Value := (nums .u8 (List.replicate 32 0)).toArray
def SOI (w : World) (M : List Int) (A : Option Addr) (p k : Nat) (W : World) : Prop := Rb W A M ∧ (∀ a, A = some a → 0 < M.length → a.block < p) ∧ Below w.heap.size w W ∧ W.heap[w.heap.size]? = some (.cells Z32 23 (0, 0)) ∧ Words W p 107 (blocks M k) ∧ w.heap.size < p
theorem keep_row (W : World) (p : Nat) (cs : Array Value) : KeepBut W (W.setRow p cs) p none := ⟨Nat.le_of_eq (size_setRow _ _ _).symm, fun i _ hne _ => setRow_other W p i cs hne⟩
/-- The answer's bytes under way. -/
def RI (w : World) (p p8 : Nat) (s : List Int) (k : Nat) (W : World) : Prop := Words W p 107 s ∧ Below w.heap.size w W ∧ W.heap[w.heap.size]? = some (.cells Z32 23 (0, 0)) ∧ W.heap[p8]? = some (.cells (nums .u8 (outN s k)).toArray 23 (0, 0)) ∧ p < p8 ∧ w.heap.size < p
theorem RI.next {w W : World} {p p8 k : Nat} {s : List Int} (h : RI w p p8 s k W) {x : Int} (hx : x = s.getD (k / 4) 0 / 2 ^ (24 - 8 * (k % 4)) % 256) : RI w p p8 s (k + 1) (W.setCell ⟨p8, k, none⟩ (.int .u8 x)) := by
  subst hx
  obtain ⟨h1, h2, h3, h4, h5, h6⟩ := h
  have hk : ∀ i o, W.heap[i]? = some o → i ≠ p8 → (W.setCell ⟨p8, k, none⟩ (.int .u8 (s.getD (k / 4) 0 / 2 ^ (24 - 8 * (k % 4)) % 256))).heap[i]? = some o := fun i o ho hne => (Below.heap_setCell W ⟨p8, k, none⟩ _ i hne).trans ho
  refine ⟨hk _ _ h1 (Nat.ne_of_lt h5), below_set h2 (Nat.le_of_lt (Nat.lt_trans h6 h5)), hk _ _ h3 (Nat.ne_of_lt (Nat.lt_trans h6 h5)), ?_, h5, h6⟩
  have := blk_set h4 k (.int .u8 (s.getD (k / 4) 0 / 2 ^ (24 - 8 * (k % 4)) % 256))
  rw [nums_set] at this
  exact this
theorem below_drew_of {w w' : World} (h : Below w.drew.heap.size w.drew w') : Below w.heap.size w w' := below_step (below_drew1 (Below.refl _ _)) h
theorem SOI.next {w W W' : World} {M : List Int} {A : Option Addr} {p k : Nat} (h : SOI w M A p k W) (hb : Below W.heap.size W W') {D : Array Value} (hD : D = (nums .u32 (blocks M (k + 1))).toArray) : SOI w M A p (k + 1) (W'.setRow p D) := by
  subst hD
  obtain ⟨h1, h2, h3, h4, h5, h6⟩ := h
  have k1 := keep_row W' p (nums .u32 (blocks M (k + 1))).toArray
  refine ⟨reads_keep (Kd.C_below h1 hb) k1 (fun a ha h0 => Nat.ne_of_lt (h2 a ha h0)), h2, below_setRow (below_step h3 hb) (Nat.le_of_lt h6) _, row_other (blk_below h4 hb) (Nat.ne_of_lt h6), setRow_heap _ _ _ _ _ _ (blk_below h5 hb), h6⟩
end Go.Proofs.Ytfpkgdenohcglaa.Sha
/- What an argument reads as, opened kind by kind: out of the form's reading a value of the kind, whose cells it has. -/
namespace Go.Proofs.Ytfpkgdenohcglaa.Open
open Go.Proofs.Ytfpkgdenohcglaa.Base Go.RowKit Go.Proofs.YtfpkgdenohcglaaW.PrintWords Go.Proofs.YtfpkgdenohcglaaW.PrintLast Go.Proofs.YtfpkgdenohcglaaW.PrintMore

/-- With so much fuel, what type t reads as is a value of kind d. -/
def OpensN (P : Program) (n : Nat) (t : TypeId) {α : Type} (d : Kd α) (ok : α → Prop) : Prop :=
  ∀ (H : Type) (enc : TypeId × Value → H) (w : World) (base : Nat) (held : Bool) (cs : List Value) (x : DataW H × List MemPlace), DataW.trod enc P w base (fun _ => true) held n t cs = some x → ∃ v, d.K w v cs ∧ ok v
def Opens (P : Program) (t : TypeId) {α : Type} (d : Kd α) (ok : α → Prop) : Prop := ∀ n, OpensN P n t d ok

theorem opens_int {P : Program} {t : TypeId} {k : IntKind} (ht : P.underlying t = some (.int k)) : Opens P t (Kd.int k) (fun v => (Lit.int k v).wf = true) := by
  intro n H enc w base held cs x h
  obtain ⟨v, rfl, hw, _⟩ : ∃ v, cs = [.int k v] ∧ (Lit.int k v).wf = true ∧ True := by
    cases n with
    | zero => simp [DataW.trod] at h
    | succ n =>
      unfold DataW.trod at h
      rw [ht] at h
      split at h <;> simp_all
  exact ⟨v, rfl, hw⟩
theorem opens_bool {P : Program} {t : TypeId} (ht : P.underlying t = some .bool) : Opens P t Kd.bool (fun _ => True) := by
  intro n H enc w base held cs x h
  obtain ⟨v, rfl⟩ : ∃ v, cs = [.bool v] := by
    cases n with
    | zero => simp [DataW.trod] at h
    | succ n =>
      unfold DataW.trod at h
      rw [ht] at h
      split at h <;> simp_all
  exact ⟨v, rfl, trivial⟩
theorem choose_list {α : Type} {p : Nat → α → Prop} : ∀ n, (∀ i, i < n → ∃ v, p i v) → ∃ xs : List α, xs.length = n ∧ ∀ i v, xs[i]? = some v → p i v := by
  intro n
  induction n with
  | zero => intro _; exact ⟨[], rfl, fun i v h => by simp at h⟩
  | succ n ih =>
    intro h
    obtain ⟨xs, hl, hx⟩ := ih (fun i hi => h i (by omega))
    obtain ⟨v, hv⟩ := h n (by omega)
    refine ⟨xs ++ [v], by simp [hl], fun i u hu => ?_⟩
    rcases Nat.lt_or_ge i xs.length with hi | hi
    · rw [List.getElem?_append_left hi] at hu; exact hx i u hu
    · have hi' : i = n := by
        have := (List.getElem?_eq_some_iff.1 hu).1
        rw [List.length_append, List.length_singleton] at this
        omega
      subst hi'
      have : v = u := by rw [← hl] at hu; simpa using hu
      subst this
      exact hv
theorem opensN_slice {P : Program} {n : Nat} {t e : TypeId} {α : Type} {d : Kd α} {ok : α → Prop} (ht : P.underlying t = some (.slice e)) (hc : P.cellsOf e = d.sz) (hd : OpensN P n e d ok) : OpensN P (n + 1) t (Kd.slice e d) (fun xs => ∀ x ∈ xs, ok x) := by
  intro H enc w base held cs x h
  rcases DataW.trod_slice ht h with ⟨rfl, _⟩ | ⟨a, len, cap, elems, rest, m, hm, rfl, _, hb, hl, hmx, hel, hi, _⟩
  · exact ⟨[], ⟨none, 0, rfl, by simp, Kd.C_nil _ _⟩, fun x hx => by cases hx⟩
  · have hmn : m = n := by omega
    subst hmn
    obtain ⟨xs, hxl, hxs⟩ := choose_list (α := α) (p := fun i v => ok v ∧ ∃ c, c.length = d.sz ∧ d.K w v c ∧ ∀ j u, c[j]? = some u → w.cell? (a.add (i * d.sz + j)) = some u) len (fun i hil => by
      have h1 := hi i hil
      rw [List.getElem?_eq_getElem (by omega)] at h1
      obtain ⟨cs', h2, h3⟩ := Option.bind_eq_some_iff.1 h1
      obtain ⟨v, hv, hok⟩ := hd _ _ _ _ _ _ _ h3
      obtain ⟨_, h4, h5⟩ := World.cells?_some h2
      refine ⟨v, hok, cs', by rw [h4, hc], hv, fun j u hu => ?_⟩
      have hj : j < cs'.length := (List.getElem?_eq_some_iff.1 hu).1
      have h6 := h5 j (by omega)
      rw [hu, hc] at h6
      rw [← h6, Addr.add_add])
    refine ⟨xs, ⟨some a, cap, by rw [hxl], by omega, ?_⟩, fun x hx => ?_⟩
    · refine ⟨rfl, ?_, fun _ => ⟨a, rfl, fun j p hj => ?_⟩⟩
      · rw [hxl]; simp only [maxLen] at hmx; omega
      · exact (hxs j p hj).2
    · obtain ⟨i, hi, rfl⟩ := List.mem_iff_getElem.1 hx
      exact (hxs i _ (List.getElem?_eq_getElem hi)).1
theorem opens_slice {P : Program} {t e : TypeId} {α : Type} {d : Kd α} {ok : α → Prop} (ht : P.underlying t = some (.slice e)) (hc : P.cellsOf e = d.sz) (hd : Opens P e d ok) : Opens P t (Kd.slice e d) (fun xs => ∀ x ∈ xs, ok x) := by
  intro n
  cases n with
  | zero => intro H enc w base held cs x h; simp [DataW.trod] at h
  | succ n => exact opensN_slice ht hc (hd n)
/-- The fields of a struct from offset o on. -/
def OpensF (P : Program) (n : Nat) (fs : List Field) (o : Nat) {α : Type} (d : Kd α) (ok : α → Prop) : Prop :=
  ∀ (H : Type) (enc : TypeId × Value → H) (w : World) (base : Nat) (held : Bool) (cs : List Value) (xs : List (DataW H × List MemPlace)),
    cs.length = o + d.sz → fs.mapM (fun f => DataW.trod enc P w base (fun _ => true) held n f.type ((cs.drop f.offset).take (P.cellsOf f.type))) = some xs → ∃ v, d.K w v (cs.drop o) ∧ ok v
theorem opensF_one {P : Program} {n : Nat} {f : Field} {o : Nat} {α : Type} {d : Kd α} {ok : α → Prop} (ho : f.offset = o) (hc : P.cellsOf f.type = d.sz) (hd : OpensN P n f.type d ok) : OpensF P n [f] o d ok := by
  intro H enc w base held cs xs hl h
  have h1 := mapM_some_get h 0 f rfl
  cases hx : xs[0]? with
  | none => rw [List.getElem?_eq_none_iff] at hx; have := mapM_some_length h; simp at this; omega
  | some y =>
    rw [hx, ho, List.take_of_length_le (by rw [List.length_drop]; omega)] at h1
    exact hd _ _ _ _ _ _ _ h1
theorem opensF_cons {P : Program} {n : Nat} {f : Field} {fs : List Field} {o : Nat} {α β : Type} {d : Kd α} {d2 : Kd β} {ok : α → Prop} {ok2 : β → Prop} (ho : f.offset = o) (hc : P.cellsOf f.type = d.sz) (hd : OpensN P n f.type d ok) (hr : OpensF P n fs (o + d.sz) d2 ok2) : OpensF P n (f :: fs) o (Kd.pair d d2) (fun v => ok v.1 ∧ ok2 v.2) := by
  intro H enc w base held cs xs hl h
  rw [List.mapM_cons] at h
  obtain ⟨y, h1, h2⟩ := Option.bind_eq_some_iff.1 h
  obtain ⟨ys, h3, h4⟩ := Option.bind_eq_some_iff.1 h2
  have hsz : (Kd.pair d d2).sz = d.sz + d2.sz := rfl
  rw [ho, hc] at h1
  obtain ⟨v1, k1, o1⟩ := hd _ _ _ _ _ _ _ h1
  obtain ⟨v2, k2, o2⟩ := hr _ _ _ _ _ _ _ (by rw [hl, hsz]; omega) h3
  refine ⟨(v1, v2), ⟨(cs.drop o).take d.sz, cs.drop (o + d.sz), ?_, k1, k2⟩, o1, o2⟩
  rw [← List.drop_drop, List.take_append_drop]
theorem opensN_struct {P : Program} {n : Nat} {t : TypeId} {fs : Array Field} {α : Type} {d : Kd α} {ok : α → Prop} (ht : P.underlying t = some (.struct fs)) (hc : P.cellsOf t = d.sz) (hd : OpensF P n fs.toList 0 d ok) : OpensN P (n + 1) t d ok := by
  intro H enc w base held cs x h
  unfold DataW.trod at h
  rw [ht] at h
  have h' : (if cs.length = P.cellsOf t then (fs.toList.mapM fun f => DataW.trod enc P w base (fun _ => true) held n f.type ((cs.drop f.offset).take (P.cellsOf f.type))).map fun xs => (DataW.agg (xs.map (·.1)), xs.flatMap (·.2)) else none) = some x := by
    revert h
    split <;> simp_all
  split at h'
  · next hl =>
    obtain ⟨xs, h1, _⟩ := Option.map_eq_some_iff.1 h'
    have := hd _ _ _ _ _ _ _ (by rw [hl, hc]; omega) h1
    simpa using this
  · cases h'
theorem opens_struct {P : Program} {t : TypeId} {fs : Array Field} {α : Type} {d : Kd α} {ok : α → Prop} (ht : P.underlying t = some (.struct fs)) (hc : P.cellsOf t = d.sz) (hd : ∀ n, OpensF P n fs.toList 0 d ok) : Opens P t d ok := by
  intro n
  cases n with
  | zero => intro H enc w base held cs x h; simp [DataW.trod] at h
  | succ n => exact opensN_struct ht hc (hd n)
/-- An argument, opened. -/
theorem Opens.arg {P : Program} {t : TypeId} {α : Type} {d : Kd α} {ok : α → Prop} (h : Opens P t d ok) {H : Type} {enc : TypeId × Value → H} {w : World} {base : Nat} {held : Bool} {v : Value} {D : DataW H} {ps : List MemPlace} (ht : DataW.Trod enc P w base (fun _ => true) held t v D ps) : ∃ x, d.K w x v.cells.toList ∧ ok x := by
  obtain ⟨n, hn⟩ := ht
  exact h n _ _ _ _ _ _ _ hn
end Go.Proofs.Ytfpkgdenohcglaa.Open
/- commit: sum walked. -/
namespace Go.Proofs.Ytfpkgdenohcglaa.Com
set_option linter.unusedVariables false
set_option linter.unusedSimpArgs false
open Go.RowKit Go.Proofs.Ytfpkgdenohcglaa.Base Go.Proofs.Ytfpkgdenohcglaa.ShaPlain Go.Proofs.Ytfpkgdenohcglaa.Sha Go.Proofs.Ytfpkgdenohcglaa.Aid Go.Proofs.YtfpkgdenohcglaaW.PrintWords Go.Proofs.YtfpkgdenohcglaaW.PrintLast Go.Proofs.YtfpkgdenohcglaaW.PrintMore
theorem info_row : (Try.prog.info? 25).map (fun i => (i.zero, i.size, i.bytes)) = some (some (.slice none 0 0), 1, 24) := by kernel_rfl
/-- What lies in the cells of rows, and what it reads as. -/
def IsRow (w : World) (l : List (List Int)) (vs : List (List Value)) : Prop := vs.length = l.length ∧ ∀ (j : Nat) (b : List Int), l[j]? = some b → ∃ (A : Option Addr) (c : Nat), vs[j]? = some [Value.slice A b.length c] ∧ b.length ≤ c ∧ Rb w A b
theorem IsRow.below {w w1 : World} {l : List (List Int)} {vs : List (List Value)} (h : IsRow w l vs) (hb : Below w.heap.size w w1) : IsRow w1 l vs :=
  ⟨h.1, fun j b hj => by obtain ⟨A, c, h1, h2, h3⟩ := h.2 j b hj; exact ⟨A, c, h1, h2, Kd.C_below h3 hb⟩⟩
theorem raw_of_rows {w : World} {A : Option Addr} {l : List (List Int)} (h : Rr w A l) : ∃ vs, IsRow w l vs ∧ Kd.C (Kd.raw 1) w A l.length vs := by
  by_cases h0 : l.length = 0
  · refine ⟨[], ⟨by simp [h0], fun j b hj => ?_⟩, by simp [h0], by omega, fun h => by omega⟩
    have := (List.getElem?_eq_some_iff.1 hj).1
    omega
  · obtain ⟨ad, hA, hc⟩ := h.2.2 (by omega)
    obtain ⟨vs, hl, hv⟩ := Open.choose_list (p := fun (j : Nat) (v : Value) => ∃ (b : List Int) (A1 : Option Addr) (c1 : Nat), l[j]? = some b ∧ v = .slice A1 b.length c1 ∧ b.length ≤ c1 ∧ Rb w A1 b ∧ w.cell? (ad.add j) = some v) l.length (fun j hj => by
      obtain ⟨ad', A1, c1, e, h1, h2, h3⟩ := rows_at h j hj
      rw [hA] at e
      injection e with e
      subst e
      exact ⟨_, l[j], A1, c1, List.getElem?_eq_getElem hj, rfl, h2, h3, h1⟩)
    refine ⟨vs.map fun v => [v], ⟨by simp [hl], fun j b hj => ?_⟩, by simp [hl], h.2.1, fun _ => ⟨ad, hA, fun j p hj => ?_⟩⟩
    · have hjl := (List.getElem?_eq_some_iff.1 hj).1
      obtain ⟨b', A1, c1, e, rfl', h2, h3, _⟩ := hv j (vs[j]'(by omega)) (List.getElem?_eq_getElem _)
      rw [hj] at e
      injection e with e
      subst e
      exact ⟨A1, c1, by rw [List.getElem?_map, List.getElem?_eq_getElem (by omega), rfl']; rfl, h2, h3⟩
    · rw [List.getElem?_map] at hj
      obtain ⟨v, hv', rfl⟩ := Option.map_eq_some_iff.1 hj
      obtain ⟨b', A1, c1, e, rfl, h2, h3, h4⟩ := hv j v hv'
      refine ⟨[.slice A1 b'.length c1], rfl, ⟨rfl, rfl, by simp; rfl⟩, fun i u hu => ?_⟩
      have hi0 : i = 0 := by
        have := (List.getElem?_eq_some_iff.1 hu).1
        simp at this
        exact this
      subst hi0
      rw [show j * (Kd.raw 1).sz + 0 = j from by show j * 1 + 0 = j; omega, h4]
      exact hu
theorem rows_of_raw {w : World} {A : Option Addr} {l : List (List Int)} {vs : List (List Value)} (h : Kd.C (Kd.raw 1) w A vs.length vs) (hi : IsRow w l vs) : Rr w A l := by
  refine ⟨rfl, by rw [← hi.1]; exact h.2.1, fun h0 => ?_⟩
  obtain ⟨ad, hA, hc⟩ := h.2.2 (by rw [hi.1]; exact h0)
  refine ⟨ad, hA, fun j b hj => ?_⟩
  obtain ⟨A1, c1, h1, h2, h3⟩ := hi.2 j b hj
  obtain ⟨cs, _, ⟨e, _, _⟩, h4⟩ := hc j _ h1
  subst e
  exact ⟨_, rfl, ⟨A1, c1, rfl, h2, h3⟩, h4⟩
theorem IsRow.cons {w : World} {l : List (List Int)} {vs : List (List Value)} {b : List Int} {A : Option Addr} {c : Nat} (h : IsRow w l vs) (hr : Rb w A b) (hc : b.length ≤ c) : IsRow w (b :: l) ([.slice A b.length c] :: vs) := by
  refine ⟨by simp [h.1], fun j x hj => ?_⟩
  cases j with
  | zero =>
    injection hj with hj
    subst hj
    exact ⟨A, c, rfl, hc, hr⟩
  | succ j => exact h.2 j x hj
theorem one_raw {w : World} {base : Nat} {ok : Nat → Prop} (v : Value) (h : v.oneCell' = true) : Reps ((Kd.raw 1).M w base ok) (Kd.raw 1).sz [[v]] [v] :=
  ⟨rfl, fun j p hj => by
    cases j with
    | zero =>
      injection hj with hj
      subst hj
      exact ⟨rfl, rfl, fun u hu => by rw [List.mem_singleton.1 hu]; exact h⟩
    | succ j => simp at hj⟩
set_option maxHeartbeats 4000000 in
set_option maxRecDepth 100000 in
theorem csum_c (tag : Int) (ht : 0 ≤ tag ∧ tag ≤ 255) (A : Option Addr) (c : Nat) (l : List (List Int)) (w : World) (hr : Rr w A l) (hc : l.length ≤ c) (hu : ∀ p ∈ l, ∀ x ∈ p, 0 ≤ x ∧ x ≤ 255) (hn : l.flatten.length ≤ 1000000) (hl : l.length ≤ 1000) :
    Calls Try.prog 90 #[.int .u8 tag, .slice A l.length c] w fun e w' => e = .returned (sumV (shaB (tag :: l.flatten))) ∧ Below w.heap.size w w' := by
  obtain ⟨vs, hi, hraw⟩ := raw_of_rows hr
  have HT := Aside0.mk ht
  have HI := Aside0.mk hi
  have HRAW := Aside0.mk hraw
  have HU := Aside0.mk hu
  have HN := Aside0.mk hn
  have HL := Aside0.mk hl
  have HZ := Aside0.mk (show (w.alloc (.cells Z32 23)).heap[w.heap.size]? = some (.cells Z32 23 (0, 0)) from blk_new _ _)
  have HB := Aside0.mk (below_alloc (Below.refl w.heap.size w) (.cells Z32 23))
  clear hr hu hn hl hi hraw ht
  go_enter Try.func90, Try.ntmps90
  go_wp2_with (first
    | ((with_reducible refine gate_dst (N := 7) rfl ?_); (try (refine gate_guard (by rfl) ?_; dsimp only)); refine lit_bytes (N := 7) ?hg ?hd [tag] [.int .u8 (tag)] rfl ?hr (by simp) ?_; (case hd => rfl); (case hg => rfl); (case hr => first | (go_simp; done) | (go_simp; rfl)); intro v w1 ho hb; have n2_ := Aside0.mk (below_step HB.out hb); have n3_ := Aside0.mk (blk_below HZ.out hb); clear HB HZ; have HB := n2_; have HZ := n3_; clear n2_ n3_ hb; obtain ⟨Aq, cq, rfl, hl_, hr_⟩ := Ob.reads ho; have HRq := Aside0.mk hr_; have HLq := Aside0.mk hl_; clear ho hl_ hr_)
    | ((with_reducible refine gate_dst (N := 8) rfl ?_); refine Kd.R_lit (Kd.raw 1) (w0 := w1) w1.heap.size 25 ?hg8 (N := 8) ?hd8 (xs := [[.slice Aq 1 cq]]) (inner := [.slice Aq 1 cq]) (ok := fun _ => True) (okp := fun _ => True) ?hr8 (one_raw _ rfl) (fun _ hk => hk) trivial (Below.refl _ _) (Nat.le_refl _) (by simp) ?_; (case hd8 => rfl); (case hg8 => rfl); (case hr8 => first | (go_simp; done) | (go_simp; rfl)); intro v0 w3 ho4 hb hg_ hnew_; have HO := Aside0.mk ho4; have HB3 := Aside0.mk hb; clear hb ho4 hg_ hnew_)
    | ((with_reducible refine gate_builtin (b := .append) (xs := #[.tmp 8, .tmp 9]) rfl ?_); at_builtin; refine Kd.R_append_rows (Kd.raw 1) (w0 := w1) w1.heap.size rfl (.tmp 8) (.tmp 9) 44 25 (.slice none 0 0) 24 rfl Try.underlying44 info_row rfl (by decide) (by omega) v0 [[.slice Aq 1 cq]] vs _ _ _ (fun _ => True) (fun _ => False) rfl rfl HO.out (Kd.C_below HRAW.out (below_step HB.out HB3.out)) (fun _ _ h => h) (fun _ h => h.elim) (fun _ _ => trivial) HB3.out HB3.out.size (by have := HL.out; simp; omega) ?_; intro v1 w5 ho hb hg hat; have HO5 := Aside0.mk ho; have HB5 := Aside0.mk hb; clear ho hb hg hat))
  obtain ⟨A5, c5, rfl, hc5, hr5⟩ := Kd.R_reads HO5.out
  have HZ5 := Aside0.mk (blk_below HZ.out HB5.out)
  have HBW := Aside0.mk (below_step HB.out HB5.out)
  have HRR := Aside0.mk (rows_of_raw hr5 ((HI.out.below HBW.out).cons (Kd.C_below HRq.out HB5.out) (b := [tag]) HLq.out))
  obtain ⟨nn, hnn⟩ : ∃ nn, ([[Value.slice Aq 1 cq]] ++ vs).length = nn := ⟨_, rfl⟩
  have hne : nn = ([tag] :: l).length := by rw [← hnn]; simp [HI.out.1]
  have HC5 := Aside0.mk hc5
  rw [hnn] at HC5 ⊢
  have HCALL := Aside0.mk (show Calls Try.prog 102 #[.slice A5 nn c5] w5 fun e w' => e = .returned (sumV (shaB (tag :: l.flatten))) ∧ Below w5.heap.size w5 w' by
    have h := of_c A5 c5 ([tag] :: l) w5 HRR.out (by rw [← hne]; exact HC5.out) (by
      intro p hp x hx
      rcases List.mem_cons.1 hp with rfl | hp
      · rw [List.mem_singleton.1 hx]; exact HT.out
      · exact HU.out p hp x hx) (by have := HN.out; simp only [List.flatten_cons, List.length_append, List.length_cons, List.length_nil]; omega) (by have := HL.out; simp only [List.length_cons]; omega)
    rw [hne]
    exact h)
  obtain ⟨D, hD⟩ : ∃ D, (nums .u8 (shaB (tag :: l.flatten))).toArray = D := ⟨_, rfl⟩
  have HD := Aside0.mk hD
  have hds : D.size = 32 := by rw [← hD]; simp [nums, shaB_len]
  have HIF := Aside0.mk (show (Try.prog.info? 23).map (·.size) = some D.size by rw [hds]; exact info_32)
  have HSZ := Aside0.mk (show Z32.size = D.size by rw [hds]; simp [Z32, nums])
  have HONE := Aside0.mk (show D.all (·.oneCell') = true by rw [← hD]; exact nums_one _ _)
  clear hc5 hr5 hnn hne hD hds HO HO5 HRR
  go_wp2_with (fail)
  refine HCALL.out.mono ?_
  rintro e w6 ⟨rfl, hb6⟩
  rw [show sumV (shaB (tag :: l.flatten)) = .agg D by rw [← HD.out]]
  have HZ6 := Aside0.mk (blk_below HZ5.out hb6)
  have HB6 := Aside0.mk (below_step HBW.out hb6)
  clear hb6
  go_wp2_with ((with_reducible refine gate_store (t := 23) (p := 4) (v := .tmp 12) rfl ?_); refine wpList_store_row rfl 23 (.tmp 4) (.tmp 12) rfl w.heap.size D rfl rfl 23 Z32 HZ6.out HIF.out HSZ.out HONE.out ?_)
  have HSR := setRow_heap w6 w.heap.size Z32 D _ _ HZ6.out
  refine bodyPost_ret (v := .agg D) (results_cell_row rfl _ _ w.heap.size 23 D (0, 0) _ rfl HSR Try.underlying23 rfl HIF.out) rfl ⟨by rw [← HD.out], below_setRow HB6.out (Nat.le_refl _) D⟩
end Go.Proofs.Ytfpkgdenohcglaa.Com
/- What a reader of bytes answers, in plain words: its state is the bytes that are left, or that it failed. -/
namespace Go.Proofs.Ytfpkgdenohcglaa.TlvPlain
open Go.Proofs.Ytfpkgdenohcglaa.Base Go.RowKit Go.Proofs.YtfpkgdenohcglaaW.PrintWords

def U8 (b : List Int) : Prop := ∀ x ∈ b, 0 ≤ x ∧ x ≤ 255
theorem U8.take {b : List Int} (h : U8 b) (n : Nat) : U8 (b.take n) := fun x hx => h x (List.mem_of_mem_take hx)
theorem U8.drop {b : List Int} (h : U8 b) (n : Nat) : U8 (b.drop n) := fun x hx => h x (List.mem_of_mem_drop hx)
theorem U8.nil : U8 [] := fun _ h => by cases h
theorem U8.append {a b : List Int} (h : U8 a) (k : U8 b) : U8 (a ++ b) := fun x hx => (List.mem_append.1 hx).elim (h x) (k x)
theorem U8.cons {x : Int} {b : List Int} (h : 0 ≤ x ∧ x ≤ 255) (k : U8 b) : U8 (x :: b) := fun y hy => (List.mem_cons.1 hy).elim (fun e => e ▸ h) (k y)
theorem U8.head {x : Int} {b : List Int} (h : U8 (x :: b)) : 0 ≤ x ∧ x ≤ 255 := h x (List.mem_cons_self ..)
theorem U8.tail {x : Int} {b : List Int} (h : U8 (x :: b)) : U8 b := fun y hy => h y (List.mem_cons_of_mem _ hy)

def takeO (st : Option (List Int)) (n : Int) : List Int × Option (List Int) :=
  match st with
  | some bs => if 0 ≤ n ∧ n ≤ bs.length then (bs.take n.toNat, some (bs.drop n.toNat)) else ([], none)
  | none => ([], none)
/-- The number of bytes, the highest first. -/
def valueB (l : List Int) : Int := l.foldl (fun n c => n * 256 + c) 0
def numO (st : Option (List Int)) : Int × Option (List Int) :=
  match st with
  | some (x :: r) =>
    if x > 8 then (0, none) else
    if (r.length : Int) < x then (0, none) else
    if 0 < x ∧ r.getD 0 0 = 0 then (0, none) else (valueB (r.take x.toNat), some (r.drop x.toNat))
  | _ => (0, none)
def countO (st : Option (List Int)) (most : Int) : Int × Option (List Int) :=
  if most < 0 ∨ (numO st).1 > most then (0, none) else numO st
def textO (st : Option (List Int)) (most : Int) : List Int × Option (List Int) := takeO (countO st most).2 (countO st most).1
def leftO (st : Option (List Int)) : Int := match st with | some bs => bs.length | none => 0

theorem valueB_snoc (l : List Int) (c : Int) : valueB (l ++ [c]) = valueB l * 256 + c := by simp [valueB]
theorem valueB_range {l : List Int} (h : U8 l) : 0 ≤ valueB l ∧ valueB l < 256 ^ l.length := by
  have H : ∀ n (l : List Int), l.length = n → U8 l → 0 ≤ valueB l ∧ valueB l < 256 ^ l.length := by
    intro n
    induction n with
    | zero =>
      intro l hl _
      have : l = [] := List.length_eq_zero_iff.1 hl
      subst this
      simp [valueB]
    | succ n ih =>
      intro l hl hu
      have hne : l ≠ [] := by intro e; rw [e] at hl; cases hl
      rw [← List.dropLast_concat_getLast hne, valueB_snoc]
      have h1 := ih l.dropLast (by simp [hl]) (fun x hx => hu x ((List.dropLast_sublist l).subset hx))
      have h2 := hu (l.getLast hne) (List.getLast_mem hne)
      rw [List.length_append, List.length_singleton, Int.pow_succ]
      omega
  exact H _ l rfl h
theorem valueB_u64 {l : List Int} (h : U8 l) (hl : l.length ≤ 8) : 0 ≤ valueB l ∧ valueB l ≤ 18446744073709551615 := by
  have := valueB_range h
  have key : ∀ n : Nat, n ≤ 8 → (256 : Int) ^ n ≤ 18446744073709551616 := by
    intro n hn
    have : n = 0 ∨ n = 1 ∨ n = 2 ∨ n = 3 ∨ n = 4 ∨ n = 5 ∨ n = 6 ∨ n = 7 ∨ n = 8 := by omega
    rcases this with rfl | rfl | rfl | rfl | rfl | rfl | rfl | rfl | rfl <;> decide +kernel
  have := key _ hl
  omega
/-- One byte more at the end: in words of 64 bits. -/
theorem or_byte (n c : Int) (hn0 : 0 ≤ n) (hn : n * 256 + 255 ≤ 18446744073709551615) (hc0 : 0 ≤ c) (hc : c ≤ 255) : Go.bits .or .u64 (n * 256) c = n * 256 + c := by
  obtain ⟨a, rfl⟩ := Int.eq_ofNat_of_zero_le hn0
  obtain ⟨b, rfl⟩ := Int.eq_ofNat_of_zero_le hc0
  have e1 : BitVec.ofInt IntKind.u64.bits ((a : Int) * 256) = BitVec.ofNat 64 (a * 256) := by
    rw [show ((a : Int) * 256) = ((a * 256 : Nat) : Int) from by omega]; rfl
  have e2 : BitVec.ofInt IntKind.u64.bits (b : Int) = BitVec.ofNat 64 b := rfl
  have e3 : (BitVec.ofNat 64 (a * 256) ||| BitVec.ofNat 64 b).toNat = a * 256 + b := by
    rw [BitVec.toNat_or, BitVec.toNat_ofNat, BitVec.toNat_ofNat, Nat.mod_eq_of_lt (by omega), Nat.mod_eq_of_lt (by omega)]
    have := Nat.shiftLeft_add_eq_or_of_lt (i := 8) (b := b) (show b < 2 ^ 8 by omega) a
    rw [Nat.shiftLeft_eq] at this
    exact this.symm
  unfold Go.bits
  simp only [e1, e2]
  show IntKind.u64.wrap (((BitVec.ofNat 64 (a * 256) ||| BitVec.ofNat 64 b : BitVec 64).toNat : Nat) : Int) = _
  rw [e3]
  exact IntWalk.u64_in _ (by omega)
theorem numO_range {st : Option (List Int)} (hu : ∀ bs, st = some bs → U8 bs) : 0 ≤ (numO st).1 ∧ (numO st).1 ≤ 18446744073709551615 := by
  unfold numO
  split
  · next x r =>
    split
    · simp
    · split
      · simp
      · split
        · simp
        · exact valueB_u64 ((hu _ rfl).tail.take _) (by rw [List.length_take]; omega)
  · simp
theorem numO_u8 {st : Option (List Int)} (hu : ∀ bs, st = some bs → U8 bs) : ∀ bs, (numO st).2 = some bs → U8 bs := by
  intro bs
  unfold numO
  split
  · next x r =>
    split
    · simp
    · split
      · simp
      · split
        · simp
        · intro h
          injection h with h
          subst h
          exact (hu _ rfl).tail.drop _
  · simp
theorem takeO_u8 {st : Option (List Int)} (hu : ∀ bs, st = some bs → U8 bs) (n : Int) : U8 (takeO st n).1 ∧ ∀ bs, (takeO st n).2 = some bs → U8 bs := by
  unfold takeO
  split
  · next bs =>
    split
    · refine ⟨(hu _ rfl).take _, fun b h => ?_⟩
      injection h with h
      subst h
      exact (hu _ rfl).drop _
    · exact ⟨U8.nil, by simp⟩
  · exact ⟨U8.nil, by simp⟩
theorem countO_u8 {st : Option (List Int)} (hu : ∀ bs, st = some bs → U8 bs) (m : Int) : ∀ bs, (countO st m).2 = some bs → U8 bs := by
  intro bs
  unfold countO
  split
  · simp
  · exact numO_u8 hu bs
end Go.Proofs.Ytfpkgdenohcglaa.TlvPlain
-- printed for this claim by a program (pall.sh)
-- mended by fixpz.py
namespace Go.Proofs.Ytfpkgdenohcglaa.PZ
open Go.RowKit Go.Proofs.YtfpkgdenohcglaaW.PrintWords Go.Proofs.YtfpkgdenohcglaaW.PrintLast Go.Proofs.YtfpkgdenohcglaaW.PrintMore
attribute [local go_sem] max2_int min2_int max_two min_two max_three min_three max_four min_four   -- for this text's walks alone
set_option linter.unusedVariables false
set_option linter.unusedSimpArgs false



def errW : Option Int → Value
 | none => .nilIface
 | some c => .iface 0 (.int .i64 c)
theorem errW_none : errW none = .nilIface := rfl
theorem errW_some (c : Int) : errW (some c) = .iface 0 (.int .i64 c) := rfl

theorem info5 : (Try.prog.info? 5).map (fun i => (i.zero, i.size, i.bytes)) = some (some (.int .u8 0), 1, 1) := by kernel_rfl
-- the values' own types
def rd_L1 (xs : List (List Int)) (i : Int) : (List Int) := xs.getD i.toNat ([] : List Int)
theorem at_L1 {w : World} {A : Option Addr} {n : Nat} {xs : List (List Int)} (h : Kd.C (Kd.slice 5 (Kd.int .u8)) w A n xs) (i : Int) (h0 : 0 ≤ i) (h1 : i < n) : ∃ ad A0 c0, A = some ad ∧ w.cell? (ad.add i.toNat) = some (.slice A0 (rd_L1 xs i).length c0) ∧ (rd_L1 xs i).length ≤ c0 ∧ (Kd.int .u8).C w A0 (rd_L1 xs i).length (rd_L1 xs i) := by
 obtain ⟨ad, c, e, _, hK, hc0⟩ := Kd.C_get h ([] : List Int) i h0 h1
 have hc : ∀ j u, c[j]? = some u → w.cell? (ad.add (i.toNat * 1 + j)) = some u := hc0
 obtain ⟨A0, c0, rfl, l0, g0⟩ := hK
 exact ⟨ad, A0, c0, e, by have hq := hc 0 _ rfl; rwa [Nat.mul_one, Nat.add_zero] at hq, l0, g0⟩

end Go.Proofs.Ytfpkgdenohcglaa.PZ
-- printed for this claim by a program (pall.sh)
-- mended by fixpz.py
namespace Go.Proofs.Ytfpkgdenohcglaa.PZ
open Go.RowKit Go.Proofs.YtfpkgdenohcglaaW.PrintWords Go.Proofs.YtfpkgdenohcglaaW.PrintLast Go.Proofs.YtfpkgdenohcglaaW.PrintMore
attribute [local go_sem] max2_int min2_int max_two min_two max_three min_three max_four min_four   -- for this text's walks alone
set_option linter.unusedVariables false
set_option linter.unusedSimpArgs false

/-! ### tlv_Num: function 65 -/
mutual
def tlv_Num.l0 : Nat → Int → Int → Int → Option (List Int)
 | 0, _, _, _ => none
 | k + 1, x0, x3, x4 => if x4 > 0 then (tlv_Num.l0 k x0 (wrap64 (x3 + 1)) (x4 / 256)) else (if 0 ≤ (wrap64 (1 + x3)) then (if (wrap64 (1 + x3) : Int).toNat ≤ 281474976710656 then ((some (List.replicate (wrap64 (1 + x3) : Int).toNat 0 : List Int)).bind fun y101 => (if 0 < (y101.length : Int) then (tlv_Num.l1 k x0 (y101.set (0 : Int).toNat ((x3) % 256)) x3) else (none))) else (none)) else (none))
def tlv_Num.l1 : Nat → Int → List Int → Int → Option (List Int)
 | 0, _, _, _ => none
 | k + 1, x0, x5, x6 => if x6 > 0 then (if 0 ≤ x6 then (if x6 < (x5.length : Int) then (tlv_Num.l1 k (x0 / 256) (x5.set (x6 : Int).toNat ((x0) % 256)) (wrap64 (x6 - 1))) else (none)) else (none)) else (some x5)
end
def tlv_Num.f (k : Nat) (a0 : Int) : Option (List Int) := tlv_Num.l0 k a0 0 a0
set_option maxHeartbeats 8000000 in
set_option maxRecDepth 100000 in
theorem tlv_Num.calls (k : Nat) (a0 : Int) (r : List Int) (w : World) (h : tlv_Num.f k a0 = some r) :
  Calls Try.prog 65 #[.int .u64 a0] w fun e w' => ∃ v0_ : Value, e = .returned (v0_) ∧ Kd.R (Kd.int .u8) 5 w' w.heap.size (fun _ => True) v0_ r ∧ Below w.heap.size w w' := by
 have HB := Aside0.mk (Below.refl w.heap.size w)
 have H : (tlv_Num.l0 k a0 0 a0) = some r := h
 clear h
 have H' := Aside0.mk H
 clear H
 go_enter Try.func65, Try.ntmps65
 go_wp2
 go_loopg [3, 4] k (fun kq v3 v4 w' => ∃ (x3_1 : Int) (x4_1 : Int), v3 = .int .i64 x3_1 ∧ v4 = .int .u64 x4_1 ∧ Aside0 (tlv_Num.l0 kq a0 x3_1 x4_1 = some r) ∧ Aside0 (kq ≤ k) ∧ Aside0 (Below w.heap.size w w'))
 case atStart => exact ⟨(0), (a0), (by first | rfl | (simp; done) | (simp [*]; done)), (by first | rfl | (simp; done) | (simp [*]; done)), H', ⟨Nat.le_refl _⟩, ⟨by repeat (first | (with_reducible first | exact HB.out | apply below_alloc | apply pw_below_drewN | apply below_drew1) | exact HB.out)⟩⟩
 case round =>
  clear H'
  obtain ⟨x3_1, x4_1, rfl, rfl, HA, HK1, HB⟩ := hrel
  cases gk with
  | zero => exact absurd HA.out (by simp [tlv_Num.l0])
  | succ k1 =>
   have H := HA.out
   clear HA
   simp only [tlv_Num.l0] at H
   by_cases c2 : x4_1 > 0
   ·rw [if_pos c2] at H
    have c2b0 : decide (0 < x4_1) = true := decide_eq_true c2
    clear c2
    have H' := Aside0.mk H
    clear H
    go_wp2
    go_roundg k1
    case measure => have := HK1.out; omega
    case rel => exact ⟨(wrap64 (x3_1 + 1)), (x4_1 / 256), (by first | rfl | (simp; done) | (simp [*]; done)), (by first | rfl | (simp; done) | (simp [*]; done)), H', ⟨by have := HK1.out; omega⟩, ⟨by repeat (first | (with_reducible first | exact HB.out | apply below_alloc | apply pw_below_drewN | apply below_drew1) | exact HB.out)⟩⟩
   ·rw [if_neg c2] at H
    have c2b0 : decide (0 < x4_1) = false := decide_eq_false c2
    clear c2
    obtain ⟨ji3, hji3⟩ : ∃ j_ : Int, (wrap64 (1 + x3_1)) = j_ := ⟨_, rfl⟩
    replace H : (if 0 ≤ (ji3) then (if (ji3 : Int).toNat ≤ 281474976710656 then ((some (List.replicate (ji3 : Int).toNat 0 : List Int)).bind fun y101 => (if 0 < (y101.length : Int) then (tlv_Num.l1 k1 a0 (y101.set (0 : Int).toNat ((x3_1) % 256)) x3_1) else (none))) else (none)) else (none)) = some r := by first | (rw [hji3] at H; exact H) | (simp only [hji3] at H ⊢; exact H)
    have hji3w : (IntKind.i64.wrap (1 + x3_1)) = ji3 := (i64_w _).trans hji3
    by_cases c4 : 0 ≤ (ji3)
    ·rw [if_pos c4] at H
     have c4b0 := eq_true c4
     have c4b1 : decide (0 ≤ (ji3)) = true := decide_eq_true c4
     clear c4
     by_cases c5 : (ji3 : Int).toNat ≤ 281474976710656
     ·rw [if_pos c5] at H
      have c5b0 := eq_true c5
      have c5b1 : decide ((ji3 : Int).toNat ≤ 281474976710656) = true := decide_eq_true c5
      clear c5
      obtain ⟨y101, hy101⟩ : ∃ y_ : List Int, y_ = (List.replicate (ji3 : Int).toNat 0) := ⟨_, rfl⟩
      replace H : (if 0 < (y101.length : Int) then (tlv_Num.l1 k1 a0 (y101.set (0 : Int).toNat ((x3_1) % 256)) x3_1) else (none)) = some r := by first | (rw [hy101]; with_reducible exact H) | (have H2_ := (Option.bind_some _ _).symm.trans H; rw [hy101]; with_reducible exact H2_) | (have H2_ := (Option.bind_some _ _).symm.trans H; with_reducible exact H2_) | with_reducible exact H | (rw [hy101]; exact H) | exact H
      have Ny101 := Aside0.mk hy101
      clear hy101
      by_cases c6 : 0 < (y101.length : Int)
      ·rw [if_pos c6] at H
       have c6b0 : decide (0 < (y101.length : Int)) = true := decide_eq_true c6
       have c6b1 : decide (0 < y101.length) = true := decide_eq_true (by omega)
       clear c6
       obtain ⟨y104, hy104⟩ : ∃ y_ : List Int, y_ = (y101.set (0 : Int).toNat ((x3_1) % 256)) := ⟨_, rfl⟩
       replace H : (tlv_Num.l1 k1 a0 y104 x3_1) = some r := by first | (rw [hy104]; with_reducible exact H) | (have H2_ := (Option.bind_some _ _).symm.trans H; rw [hy104]; with_reducible exact H2_) | (have H2_ := (Option.bind_some _ _).symm.trans H; with_reducible exact H2_) | with_reducible exact H | (rw [hy104]; exact H) | exact H
       have Ny104 := Aside0.mk hy104
       clear hy104
       have H' := Aside0.mk H
       clear H
       go_wp2_with (first | ((with_reducible refine gate_dst (N := 16) rfl ?_); refine Kd.R_make (Kd.int .u8) _ 5 rfl (N := 16) rfl 25 _ _ rfl ji3 rfl rfl Try.underlying25 (.int .u8 0) 1 info5 rfl (by decide) (by omega) 0 (ok := fun _ => True) (okp := fun _ => True) rfl (fun _ hk => hk) trivial (of_decide_eq_true (by first | (with_reducible assumption) | assumption)) (Nat.le_trans (Nat.mul_le_mul_right _ (of_decide_eq_true (by first | (with_reducible assumption) | assumption) : ji3.toNat ≤ 281474976710656)) (by omega)) (Below.refl _ _) (Nat.le_refl _) ?_; intro v102 w8 ho9 hb hg_ hnew_; clear hg_ hnew_; (first | rw [← Ny101.out] at ho9 | (simp only [Int.reduceToNat] at ho9; rw [← Ny101.out] at ho9)); have n0_ := Aside0.mk (Kd.R_lower ho9 (below_size (by repeat (first | (with_reducible first | exact HB.out | apply below_alloc | apply pw_below_drewN | apply below_drew1) | exact HB.out)))); have n1_ := Aside0.mk (below_step (by repeat (first | (with_reducible first | exact HB.out | apply below_alloc | apply pw_below_drewN | apply below_drew1) | exact HB.out)) hb); clear HB; have HO103 := n0_; have HB := n1_; clear n0_ n1_; clear hb ho9; have p7 : 0 ≤ (0 : Int) := (by omega); have q7 : (0 : Int) < ((y101.length : Int) : Int) := of_decide_eq_true (by first | (with_reducible assumption) | assumption); have qi7 : (0 < y101.length) = True := eq_true (by omega); obtain ⟨go7, co7, eo7, gb7, gl7, cl7, HG7⟩ := Kd.R_form HO103.out (by omega); (first | cases eo7 | (injection eo7 with ea_ en_ ec_; (first | subst ea_ | (injection ea_ with ea_; subst ea_)); subst ec_; clear en_)); have GB7 := Aside0.mk gb7; have GG7 := Aside0.mk HG7; clear gb7 gl7 HG7; obtain ⟨hx7_0, hf7_0⟩ := Kd.R_celln 0 HO103.out (0 : Int) p7 q7; (try rw [show ((0 : Int)).toNat = 0 from rfl] at hx7_0); (try simp only [Nat.reduceMul, Nat.zero_mul, Nat.zero_add, Nat.reduceAdd] at hx7_0); (try rw [show ((0 : Int)).toNat = 0 from rfl] at hf7_0); (try simp only [Nat.reduceMul, Nat.zero_mul, Nat.zero_add, Nat.reduceAdd] at hf7_0); replace p7 := eq_true p7; replace q7 := eq_true q7; obtain ⟨hy10_, hz10_⟩ := Kd.R_celln 0 HO103.out (0 : Int) (by omega) (of_decide_eq_true (by first | (with_reducible assumption) | assumption)); (try simp only [Int.reduceToNat, Int.toNat_zero, Int.toNat_ofNat, Nat.reduceMul, Nat.zero_mul, Nat.zero_add] at hy10_ hz10_); (try rw [show ((0 : Int)).toNat = 0 from rfl] at hy10_); (try rw [show ((0 : Int)).toNat = 0 from rfl] at hz10_); have HP10 := Kd.R_putg HO103.out (0 : Int) ((x3_1) % 256)) | ((with_reducible refine gate_store (t := 5) (p := 20) rfl ?_); refine store_event (t := 5) (p := 20) (v := ?vo_w11) (w1 := (w8.setCell ⟨go7, (0 : Int).toNat, none⟩ (.int .u8 ((x3_1) % 256)))) ?hg ?ho ?hn ?hr ?_; (case ho => rfl); (case hg => rfl); (case hn => rfl); (case hr => first | (go_simp; done) | (go_simp; rfl)); intro w11 hw; have hg : w8.grownBy w11 (some go7) := (by rw [hw]; exact HP10.2); have hp_ : Kd.R (Kd.int .u8) 5 w11 w.heap.size (fun _ => True) (.slice (some ⟨go7, 0, none⟩) y101.length co7) y104 := (by rw [hw, Ny104.out]; exact HP10.1); clear HP10; have n0_ := Aside0.mk (hp_); have n1_ := Aside0.mk ((by rw [hw]; exact below_set (HB.out) GB7.out : Below w.heap.size w w11)); clear HO103; clear HB; have HO103 := n0_; have HB := n1_; clear n0_ n1_; clear hg hw hp_))
       go_loopg [0, 6] k1 (fun kq v0 v6 w' => ∃ (x0_2 : Int) (x5_2 : List Int) (x6_2 : Int), v0 = .int .u64 x0_2 ∧ v6 = .int .i64 x6_2 ∧ Aside0 (tlv_Num.l1 kq x0_2 x5_2 x6_2 = some r) ∧ Aside0 (kq ≤ k1) ∧ Aside0 (Kd.R (Kd.int .u8) 5 w' w.heap.size (fun _ => True) (.slice (some ⟨go7, 0, none⟩) y101.length co7) x5_2) ∧ Aside0 (Below w.heap.size w w'))
       case atStart => exact ⟨(a0), (y104), (x3_1), (by first | rfl | (simp; done) | (simp [*]; done)), (by first | rfl | (simp; done) | (simp [*]; done)), H', ⟨Nat.le_refl _⟩, ⟨by (with_reducible repeat (first | apply Kd.R_alloc | apply Kd.R_drewN | apply Kd.R_drew)); exact HO103.out⟩, ⟨by repeat (first | (with_reducible first | exact HB.out | apply below_alloc | apply pw_below_drewN | apply below_drew1) | exact HB.out)⟩⟩
       case round =>
        clear H'
        (try clear c2);(try clear c2b0);(try clear p2);(try clear c4);(try clear c4b0);(try clear c4b1);(try clear c5);(try clear c5b0);(try clear c5b1);(try clear c6);(try clear c6b0);(try clear c6b1);(try clear p6);(try clear p7);(try clear q7);(try clear hx7);(try clear qi7);(try clear hf7);(try clear hx7_0);(try clear p7);(try clear q7)
        obtain ⟨x0_2, x5_2, x6_2, rfl, rfl, HA, HK2, HO_5, HB⟩ := hrel
        have hl5_2 := (Kd.R_reads' HO_5.out).1
        rw [hl5_2] at HO_5
        (try simp only [hl5_2])
        cases gk with
        | zero => exact absurd HA.out (by simp [tlv_Num.l1])
        | succ k2 =>
         have H := HA.out
         clear HA
         simp only [tlv_Num.l1] at H
         by_cases c12 : x6_2 > 0
         ·rw [if_pos c12] at H
          have c12b0 : decide (0 < x6_2) = true := decide_eq_true c12
          clear c12
          by_cases c13 : 0 ≤ x6_2
          ·rw [if_pos c13] at H
           have c13b0 : decide (0 ≤ x6_2) = true := decide_eq_true c13
           clear c13
           by_cases c14 : x6_2 < (x5_2.length : Int)
           ·rw [if_pos c14] at H
            have c14b0 : decide (x6_2 < (x5_2.length : Int)) = true := decide_eq_true c14
            clear c14
            obtain ⟨y105, hy105⟩ : ∃ y_ : List Int, y_ = (x5_2.set (x6_2 : Int).toNat ((x0_2) % 256)) := ⟨_, rfl⟩
            replace H : (tlv_Num.l1 k2 (x0_2 / 256) y105 (wrap64 (x6_2 - 1))) = some r := by first | (rw [hy105]; with_reducible exact H) | (have H2_ := (Option.bind_some _ _).symm.trans H; rw [hy105]; with_reducible exact H2_) | (have H2_ := (Option.bind_some _ _).symm.trans H; with_reducible exact H2_) | with_reducible exact H | (rw [hy105]; exact H) | exact H
            have Ny105 := Aside0.mk hy105
            clear hy105
            have H' := Aside0.mk H
            clear H
            have p15 : 0 ≤ (x6_2 : Int) := of_decide_eq_true (by first | (with_reducible assumption) | assumption)
            have q15 : (x6_2 : Int) < ((x5_2.length : Int) : Int) := of_decide_eq_true (by first | (with_reducible assumption) | assumption)
            obtain ⟨hx15_0, hf15_0⟩ := Kd.R_celln 0 HO_5.out (x6_2 : Int) p15 q15
            replace p15 := eq_true p15
            replace q15 := eq_true q15
            have HP16 := Kd.R_putg HO_5.out (x6_2 : Int) ((x0_2) % 256)
            go_wp2_with (first | ((with_reducible refine gate_store (t := 5) (p := 30) rfl ?_); refine store_event (t := 5) (p := 30) (v := ?vo_w17) (w1 := (wr.setCell ⟨go7, (x6_2 : Int).toNat, none⟩ (.int .u8 ((x0_2) % 256)))) ?hg ?ho ?hn ?hr ?_; (case ho => rfl); (case hg => rfl); (case hn => rfl); (case hr => first | (go_simp; done) | (go_simp; rfl)); intro w17 hw; have hg : wr.grownBy w17 (some go7) := (by rw [hw]; exact HP16.2); have hp_ : Kd.R (Kd.int .u8) 5 w17 w.heap.size (fun _ => True) (.slice (some ⟨go7, 0, none⟩) x5_2.length co7) y105 := (by rw [hw, Ny105.out]; exact HP16.1); clear HP16; have n0_ := Aside0.mk (hp_); have n1_ := Aside0.mk ((by rw [hw]; exact below_set (HB.out) GB7.out : Below w.heap.size w w17)); clear HO_5; clear HB; have HO_5 := n0_; have HB := n1_; clear n0_ n1_; clear hg hw hp_))
            (try simp only [← hl5_2])
            go_roundg k2
            case measure => have := HK1.out; have := HK2.out; omega
            case rel => exact ⟨(x0_2 / 256), (y105), (wrap64 (x6_2 - 1)), (by first | rfl | (simp; done) | (simp [*]; done)), (by first | rfl | (simp; done) | (simp [*]; done)), H', ⟨by have := HK1.out; have := HK2.out; omega⟩, ⟨by (try simp only [hl5_2]); (with_reducible repeat (first | apply Kd.R_alloc | apply Kd.R_drewN | apply Kd.R_drew)); exact HO_5.out⟩, ⟨by repeat (first | (with_reducible first | exact HB.out | apply below_alloc | apply pw_below_drewN | apply below_drew1) | exact HB.out)⟩⟩
           ·rw [if_neg c14] at H
            exact absurd H (by simp)
          ·rw [if_neg c13] at H
           exact absurd H (by simp)
         ·rw [if_neg c12] at H
          have c12b0 : decide (0 < x6_2) = false := decide_eq_false c12
          clear c12
          obtain rfl := Option.some.inj H
          go_wp2
          go_ret
          exact ⟨_, by first | rfl | (simp [errW_none, errW_some] <;> rfl) | (simp only [← hji3]; first | rfl | (simp [errW_none, errW_some] <;> rfl)) | (simp [*, errW_none, errW_some] <;> rfl), by (with_reducible repeat (first | apply Kd.R_alloc | apply Kd.R_drewN | apply Kd.R_drew)); exact HO_5.out, by repeat (first | (with_reducible first | exact HB.out | apply below_alloc | apply pw_below_drewN | apply below_drew1) | exact HB.out)⟩
      ·rw [if_neg c6] at H
       exact absurd H (by simp)
     ·rw [if_neg c5] at H
      exact absurd H (by simp)
    ·rw [if_neg c4] at H
     exact absurd H (by simp)

end Go.Proofs.Ytfpkgdenohcglaa.PZ
-- printed for this claim by a program (pall.sh)
-- mended by fixpz.py
namespace Go.Proofs.Ytfpkgdenohcglaa.PZ
open Go.RowKit Go.Proofs.YtfpkgdenohcglaaW.PrintWords Go.Proofs.YtfpkgdenohcglaaW.PrintLast Go.Proofs.YtfpkgdenohcglaaW.PrintMore
attribute [local go_sem] max2_int min2_int max_two min_two max_three min_three max_four min_four   -- for this text's walks alone
set_option linter.unusedVariables false
set_option linter.unusedSimpArgs false

/-! ### tlv_Text: function 66 -/
def tlv_Text.f (k : Nat) (l0 : List Int) : Option (List Int) := (tlv_Num.f k (IntKind.u64.wrap ((l0.length : Int)))).bind fun t101 => (if t101.length + l0.length < 140737488355328 then (some (t101 ++ l0)) else (none))
set_option maxHeartbeats 8000000 in
set_option maxRecDepth 100000 in
theorem tlv_Text.calls (k : Nat) (A0 : Option Addr) (c0 : Nat) (l0 : List Int) (r : List Int) (w : World) (hr0 : Kd.C (Kd.int .u8) w A0 l0.length l0) (hc0 : l0.length ≤ c0) (h : tlv_Text.f k l0 = some r) :
  Calls Try.prog 66 #[.slice A0 l0.length c0] w fun e w' => ∃ v0_ : Value, e = .returned (v0_) ∧ Kd.R (Kd.int .u8) 5 w' w.heap.size (fun _ => True) v0_ r ∧ Below w.heap.size w w' := by
 have HR0 := Aside0.mk hr0
 have HC0 := Aside0.mk hc0
 clear hr0 hc0
 have HB := Aside0.mk (Below.refl w.heap.size w)
 have H : ((tlv_Num.f k (IntKind.u64.wrap ((l0.length : Int)))).bind fun t101 => (if t101.length + l0.length < 140737488355328 then (some (t101 ++ l0)) else (none))) = some r := h
 clear h
 replace H := Option.bind_eq_some_iff.mp H
 obtain ⟨t101, A20, H⟩ := H
 replace H : (if t101.length + l0.length < 140737488355328 then (some (t101 ++ l0)) else (none)) = some r := H
 have A2 := Aside0.mk A20
 clear A20
 by_cases c3 : t101.length + l0.length < 140737488355328
 ·rw [if_pos c3] at H
  have LMc3 := Aside0.mk c3
  clear c3
  obtain ⟨y104, hy104⟩ : ∃ y_ : List Int, y_ = (t101 ++ l0) := ⟨_, rfl⟩
  replace H : (some y104) = some r := by first | (rw [hy104]; with_reducible exact H) | (have H2_ := (Option.bind_some _ _).symm.trans H; rw [hy104]; with_reducible exact H2_) | (have H2_ := (Option.bind_some _ _).symm.trans H; with_reducible exact H2_) | with_reducible exact H | (rw [hy104]; exact H) | exact H
  have Ny104 := Aside0.mk hy104
  clear hy104
  obtain rfl := Option.some.inj H
  go_enter Try.func66, Try.ntmps66
  go_wp2_with (first | ((with_reducible refine gate_callee (f := 65) rfl ?_); refine goesL_ (some 6) rfl rfl Try.func65 (by kernel_rfl) rfl #[.int .u64 (IntKind.u64.wrap ((l0.length : Int)))] rfl (by (try simp only [List.map_toArray, List.map_cons, List.map_nil]); first | done | rfl | (simp only [List.length_drop, List.length_take]; rfl)) ?_; (with_reducible refine (tlv_Num.calls k (IntKind.u64.wrap ((l0.length : Int))) t101 _ A2.out).mono ?_); rintro e w4 ⟨v102, rfl, ho0, hb⟩; refine ⟨_, rfl, ?_⟩; have n0_ := Aside0.mk (Kd.R_lower ho0 (below_size (by repeat (first | (with_reducible first | exact HB.out | apply below_alloc | apply pw_below_drewN | apply below_drew1) | exact HB.out)))); have n1_ := Aside0.mk (below_step (by repeat (first | (with_reducible first | exact HB.out | apply below_alloc | apply pw_below_drewN | apply below_drew1) | exact HB.out)) hb); clear HB; have HO103 := n0_; have HB := n1_; clear n0_ n1_; (try clear hb); (try clear hb2); (try clear hk); (try clear hi); (try clear ho0)) | ((with_reducible refine gate_builtin (b := .append) (xs := #[.tmp 6, .tmp 7]) rfl ?_); at_builtin; refine Kd.R_append_rows (Kd.int .u8) (w0 := w) w.heap.size rfl (.tmp 6) (.tmp 7) 25 5 (.int .u8 0) 1 rfl Try.underlying25 info5 rfl (by decide) (by omega) v102 t101 l0 _ _ _ (fun _ => True) (fun _ => False) rfl rfl ?aO ?aR (fun _ _ h => h) (fun _ h => h.elim) ?aF ?aB ?aS ?aL ?_; (case aR => repeat (first | exact (Kd.C_below HR0.out HB.out) | (with_reducible refine Kd.C_alloc ?_ _) | (with_reducible refine Kd.C_drewN ?_ _) | (with_reducible refine Kd.C_drew ?_))); (case aB => exact (by repeat (first | (with_reducible first | exact HB.out | apply below_alloc | apply pw_below_drewN | apply below_drew1) | exact HB.out))); (case aF => exact (fun _ _ => trivial)); (case aO => exact (by (with_reducible repeat (first | apply Kd.R_alloc | apply Kd.R_drewN | apply Kd.R_drew)); exact HO103.out)); (case aS => exact (below_size (by repeat (first | (with_reducible first | exact HB.out | apply below_alloc | apply pw_below_drewN | apply below_drew1) | exact HB.out)))); (case aL => have := LMc3.out; omega); intro v105 w5 ho hb hg hat; rw [← Ny104.out] at ho; have n0_ := Aside0.mk (hb); have n1_ := Aside0.mk (ho); clear HB; clear HO103; have HB := n0_; have HO106 := n1_; clear n0_ n1_; clear ho hb hg hat))
  go_ret
  exact ⟨_, by first | rfl | (simp [errW_none, errW_some] <;> rfl) | (simp [*, errW_none, errW_some] <;> rfl), by (with_reducible repeat (first | apply Kd.R_alloc | apply Kd.R_drewN | apply Kd.R_drew)); exact HO106.out, by repeat (first | (with_reducible first | exact HB.out | apply below_alloc | apply pw_below_drewN | apply below_drew1) | exact HB.out)⟩
 ·rw [if_neg c3] at H
  exact absurd H (by simp)

end Go.Proofs.Ytfpkgdenohcglaa.PZ
-- printed for this claim by a program (pall.sh)
-- mended by fixpz.py
namespace Go.Proofs.Ytfpkgdenohcglaa.PZ
open Go.RowKit Go.Proofs.YtfpkgdenohcglaaW.PrintWords Go.Proofs.YtfpkgdenohcglaaW.PrintLast Go.Proofs.YtfpkgdenohcglaaW.PrintMore
attribute [local go_sem] max2_int min2_int max_two min_two max_three min_three max_four min_four   -- for this text's walks alone
set_option linter.unusedVariables false
set_option linter.unusedSimpArgs false

/-! ### tlv_Int: function 84 -/
def tlv_Int.f (k : Nat) (a0 : Int) : Option (List Int) := (tlv_Num.f k (IntKind.u64.wrap (a0))).bind fun t101 => (some t101)
set_option maxHeartbeats 8000000 in
set_option maxRecDepth 100000 in
theorem tlv_Int.calls (k : Nat) (a0 : Int) (r : List Int) (w : World) (h : tlv_Int.f k a0 = some r) :
  Calls Try.prog 84 #[.int .i64 a0] w fun e w' => ∃ v0_ : Value, e = .returned (v0_) ∧ Kd.R (Kd.int .u8) 5 w' w.heap.size (fun _ => True) v0_ r ∧ Below w.heap.size w w' := by
 have HB := Aside0.mk (Below.refl w.heap.size w)
 have H : ((tlv_Num.f k (IntKind.u64.wrap (a0))).bind fun t101 => (some t101)) = some r := h
 clear h
 replace H := Option.bind_eq_some_iff.mp H
 obtain ⟨t101, A20, H⟩ := H
 replace H : (some t101) = some r := H
 have A2 := Aside0.mk A20
 clear A20
 obtain rfl := Option.some.inj H
 go_enter Try.func84, Try.ntmps84
 go_wp2_with (first | ((with_reducible refine gate_callee (f := 65) rfl ?_); refine goesL_ (some 5) rfl rfl Try.func65 (by kernel_rfl) rfl #[.int .u64 (IntKind.u64.wrap (a0))] rfl (by (try simp only [List.map_toArray, List.map_cons, List.map_nil]); first | done | rfl | (simp only [List.length_drop, List.length_take]; rfl)) ?_; (with_reducible refine (tlv_Num.calls k (IntKind.u64.wrap (a0)) t101 _ A2.out).mono ?_); rintro e w3 ⟨v102, rfl, ho0, hb⟩; refine ⟨_, rfl, ?_⟩; have n0_ := Aside0.mk (Kd.R_lower ho0 (below_size (by repeat (first | (with_reducible first | exact HB.out | apply below_alloc | apply pw_below_drewN | apply below_drew1) | exact HB.out)))); have n1_ := Aside0.mk (below_step (by repeat (first | (with_reducible first | exact HB.out | apply below_alloc | apply pw_below_drewN | apply below_drew1) | exact HB.out)) hb); clear HB; have HO103 := n0_; have HB := n1_; clear n0_ n1_; (try clear hb); (try clear hb2); (try clear hk); (try clear hi); (try clear ho0)))
 go_ret
 exact ⟨_, by first | rfl | (simp [errW_none, errW_some] <;> rfl) | (simp [*, errW_none, errW_some] <;> rfl), by (with_reducible repeat (first | apply Kd.R_alloc | apply Kd.R_drewN | apply Kd.R_drew)); exact HO103.out, by repeat (first | (with_reducible first | exact HB.out | apply below_alloc | apply pw_below_drewN | apply below_drew1) | exact HB.out)⟩

end Go.Proofs.Ytfpkgdenohcglaa.PZ
-- printed for this claim by a program (pall.sh)
-- mended by fixpz.py
namespace Go.Proofs.Ytfpkgdenohcglaa.PZ
open Go.RowKit Go.Proofs.YtfpkgdenohcglaaW.PrintWords Go.Proofs.YtfpkgdenohcglaaW.PrintLast Go.Proofs.YtfpkgdenohcglaaW.PrintMore
attribute [local go_sem] max2_int min2_int max_two min_two max_three min_three max_four min_four   -- for this text's walks alone
set_option linter.unusedVariables false
set_option linter.unusedSimpArgs false

/-! ### tlv_All: function 64 -/
def tlv_All.l0 : Nat → List Int → List (List Int) → Int → Int → Option (List Int)
 | 0, _, _, _, _ => none
 | k + 1, x3, x6, x7, x8 => if x8 < x7 then (if 0 ≤ x8 then (if x8 < (x6.length : Int) then (if x3.length + (rd_L1 x6 x8).length < 140737488355328 then (tlv_All.l0 k (x3 ++ (rd_L1 x6 x8)) x6 x7 (wrap64 (x8 + 1))) else (none)) else (none)) else (none)) else (some x3)
def tlv_All.f (k : Nat) (l0 : List (List Int)) : Option (List Int) := tlv_All.l0 k ([] : List Int) l0 (l0.length : Int) 0
set_option maxHeartbeats 8000000 in
set_option maxRecDepth 100000 in
theorem tlv_All.calls (k : Nat) (A0 : Option Addr) (c0 : Nat) (l0 : List (List Int)) (r : List Int) (w : World) (hr0 : Kd.C (Kd.slice 5 (Kd.int .u8)) w A0 l0.length l0) (hc0 : l0.length ≤ c0) (h : tlv_All.f k l0 = some r) :
  Calls Try.prog 64 #[.slice A0 l0.length c0] w fun e w' => ∃ v0_ : Value, e = .returned (v0_) ∧ Kd.R (Kd.int .u8) 5 w' w.heap.size (fun _ => True) v0_ r ∧ Below w.heap.size w w' := by
 have HR0 := Aside0.mk hr0
 have HC0 := Aside0.mk hc0
 clear hr0 hc0
 have HB := Aside0.mk (Below.refl w.heap.size w)
 have H : (tlv_All.l0 k ([] : List Int) l0 (l0.length : Int) 0) = some r := h
 clear h
 have H' := Aside0.mk H
 clear H
 go_enter Try.func64, Try.ntmps64
 go_wp2
 go_loopg [3, 8] k (fun kq v3 v8 w' => ∃ (x3_1 : List Int) (x8_1 : Int), v8 = .int .i64 x8_1 ∧ Aside0 (tlv_All.l0 kq x3_1 l0 (l0.length : Int) x8_1 = some r) ∧ Aside0 (kq ≤ k) ∧ Aside0 (Kd.R (Kd.int .u8) 5 w' w.heap.size (fun _ => True) v3 x3_1) ∧ Aside0 (Below w.heap.size w w'))
 case atStart => exact ⟨(([] : List Int)), (0), (by first | rfl | (simp; done) | (simp [*]; done)), H', ⟨Nat.le_refl _⟩, ⟨by first | exact Kd.R_nil _ _ _ _ _ | exact Kd.N_nil _ _ _ _ _ | exact Kd.V_nil _ _ _ _ _ | exact Kd.Q_nil _ _ _ _ _ | exact Kd.S_nil _ _ _ _ _⟩, ⟨by repeat (first | (with_reducible first | exact HB.out | apply below_alloc | apply pw_below_drewN | apply below_drew1) | exact HB.out)⟩⟩
 case round =>
  clear H'
  obtain ⟨x3_1, x8_1, rfl, HA, HK1, HO_3, HB⟩ := hrel
  cases gk with
  | zero => exact absurd HA.out (by simp [tlv_All.l0])
  | succ k1 =>
   have H := HA.out
   clear HA
   simp only [tlv_All.l0] at H
   by_cases c2 : x8_1 < (l0.length : Int)
   ·rw [if_pos c2] at H
    have c2b0 : decide (x8_1 < (l0.length : Int)) = true := decide_eq_true c2
    clear c2
    by_cases c3 : 0 ≤ x8_1
    ·rw [if_pos c3] at H
     have c3b0 : decide (0 ≤ x8_1) = true := decide_eq_true c3
     clear c3
     by_cases c4 : x8_1 < (l0.length : Int)
     ·rw [if_pos c4] at H
      have c4b0 : decide (x8_1 < (l0.length : Int)) = true := decide_eq_true c4
      clear c4
      by_cases c5 : x3_1.length + (rd_L1 l0 x8_1).length < 140737488355328
      ·rw [if_pos c5] at H
       have LMc5 := Aside0.mk c5
       clear c5
       obtain ⟨y102, hy102⟩ : ∃ y_ : List Int, y_ = (x3_1 ++ (rd_L1 l0 x8_1)) := ⟨_, rfl⟩
       replace H : (tlv_All.l0 k1 y102 l0 (l0.length : Int) (wrap64 (x8_1 + 1))) = some r := by first | (rw [hy102]; with_reducible exact H) | (have H2_ := (Option.bind_some _ _).symm.trans H; rw [hy102]; with_reducible exact H2_) | (have H2_ := (Option.bind_some _ _).symm.trans H; with_reducible exact H2_) | with_reducible exact H | (rw [hy102]; exact H) | exact H
       have Ny102 := Aside0.mk hy102
       clear hy102
       have H' := Aside0.mk H
       clear H
       have p101 : 0 ≤ (x8_1 : Int) := of_decide_eq_true (by first | (with_reducible assumption) | assumption)
       have q101 : x8_1 < (l0.length : Int) := of_decide_eq_true (by first | (with_reducible assumption) | assumption)
       obtain ⟨ad101, A101_0, c101_0, e101, hx101_0, hl101_0, hi101_0⟩ := at_L1 HR0.out x8_1 p101 q101
       cases e101
       replace hx101_0 := (HB.out.cell (World.block_lt_of_cell? w _ hx101_0)).trans hx101_0
       have HR101_0 := Aside0.mk hi101_0
       have HC101_0 := Aside0.mk hl101_0
       clear hi101_0 hl101_0
       replace p101 := eq_true p101
       replace q101 := eq_true q101
       go_wp2_with (first | ((with_reducible refine gate_builtin (b := .append) (xs := #[.tmp 12, .tmp 13]) rfl ?_); at_builtin; refine Kd.R_append_rows (Kd.int .u8) (w0 := w) w.heap.size rfl (.tmp 12) (.tmp 13) 25 5 (.int .u8 0) 1 rfl Try.underlying25 info5 rfl (by decide) (by omega) u3 x3_1 (rd_L1 l0 x8_1) _ _ _ (fun _ => True) (fun _ => False) rfl rfl ?aO ?aR (fun _ _ h => h) (fun _ h => h.elim) ?aF ?aB ?aS ?aL ?_; (case aR => repeat (first | exact (Kd.C_below HR101_0.out HB.out) | (with_reducible refine Kd.C_alloc ?_ _) | (with_reducible refine Kd.C_drewN ?_ _) | (with_reducible refine Kd.C_drew ?_))); (case aB => exact (by repeat (first | (with_reducible first | exact HB.out | apply below_alloc | apply pw_below_drewN | apply below_drew1) | exact HB.out))); (case aF => exact (fun _ _ => trivial)); (case aO => exact (by (with_reducible repeat (first | apply Kd.R_alloc | apply Kd.R_drewN | apply Kd.R_drew)); exact HO_3.out)); (case aS => exact (below_size (by repeat (first | (with_reducible first | exact HB.out | apply below_alloc | apply pw_below_drewN | apply below_drew1) | exact HB.out)))); (case aL => have := LMc5.out; omega); intro v103 w6 ho hb hg hat; rw [← Ny102.out] at ho; have n0_ := Aside0.mk (hb); have n1_ := Aside0.mk (ho); clear HB; clear HO_3; have HB := n0_; have HO104 := n1_; clear n0_ n1_; clear ho hb hg hat))
       go_roundg k1
       case measure => have := HK1.out; omega
       case rel => exact ⟨(y102), (wrap64 (x8_1 + 1)), (by first | rfl | (simp; done) | (simp [*]; done)), H', ⟨by have := HK1.out; omega⟩, ⟨by (with_reducible repeat (first | apply Kd.R_alloc | apply Kd.R_drewN | apply Kd.R_drew)); exact HO104.out⟩, ⟨by repeat (first | (with_reducible first | exact HB.out | apply below_alloc | apply pw_below_drewN | apply below_drew1) | exact HB.out)⟩⟩
      ·rw [if_neg c5] at H
       exact absurd H (by simp)
     ·rw [if_neg c4] at H
      exact absurd H (by simp)
    ·rw [if_neg c3] at H
     exact absurd H (by simp)
   ·rw [if_neg c2] at H
    have c2b0 : decide (x8_1 < (l0.length : Int)) = false := decide_eq_false c2
    clear c2
    obtain rfl := Option.some.inj H
    go_wp2
    go_ret
    exact ⟨_, by first | rfl | (simp [errW_none, errW_some] <;> rfl) | (simp [*, errW_none, errW_some] <;> rfl), by (with_reducible repeat (first | apply Kd.R_alloc | apply Kd.R_drewN | apply Kd.R_drew)); exact HO_3.out, by repeat (first | (with_reducible first | exact HB.out | apply below_alloc | apply pw_below_drewN | apply below_drew1) | exact HB.out)⟩

end Go.Proofs.Ytfpkgdenohcglaa.PZ
-- printed for this claim by a program (pall.sh)
-- mended by fixpz.py
namespace Go.Proofs.Ytfpkgdenohcglaa.PZ
open Go.RowKit Go.Proofs.YtfpkgdenohcglaaW.PrintWords Go.Proofs.YtfpkgdenohcglaaW.PrintLast Go.Proofs.YtfpkgdenohcglaaW.PrintMore
attribute [local go_sem] max2_int min2_int max_two min_two max_three min_three max_four min_four   -- for this text's walks alone
set_option linter.unusedVariables false
set_option linter.unusedSimpArgs false

end Go.Proofs.Ytfpkgdenohcglaa.PZ
-- printed for this claim by a program (pall.sh)
-- mended by fixpz.py
namespace Go.Proofs.Ytfpkgdenohcglaa.PZ
open Go.RowKit Go.Proofs.YtfpkgdenohcglaaW.PrintWords Go.Proofs.YtfpkgdenohcglaaW.PrintLast Go.Proofs.YtfpkgdenohcglaaW.PrintMore
attribute [local go_sem] max2_int min2_int max_two min_two max_three min_three max_four min_four   -- for this text's walks alone
set_option linter.unusedVariables false
set_option linter.unusedSimpArgs false

end Go.Proofs.Ytfpkgdenohcglaa.PZ
-- printed for this claim by a program (pall.sh)
-- mended by fixpz.py
namespace Go.Proofs.Ytfpkgdenohcglaa.PZ
open Go.RowKit Go.Proofs.YtfpkgdenohcglaaW.PrintWords Go.Proofs.YtfpkgdenohcglaaW.PrintLast Go.Proofs.YtfpkgdenohcglaaW.PrintMore
attribute [local go_sem] max2_int min2_int max_two min_two max_three min_three max_four min_four   -- for this text's walks alone
set_option linter.unusedVariables false
set_option linter.unusedSimpArgs false

end Go.Proofs.Ytfpkgdenohcglaa.PZ
-- printed for this claim by a program (pall.sh)
-- mended by fixpz.py
namespace Go.Proofs.Ytfpkgdenohcglaa.PZ
open Go.RowKit Go.Proofs.YtfpkgdenohcglaaW.PrintWords Go.Proofs.YtfpkgdenohcglaaW.PrintLast Go.Proofs.YtfpkgdenohcglaaW.PrintMore
attribute [local go_sem] max2_int min2_int max_two min_two max_three min_three max_four min_four   -- for this text's walks alone
set_option linter.unusedVariables false
set_option linter.unusedSimpArgs false

/-! ### hanaperref01_Same: function 23 -/
def hanaperref01_Same.l0 : Nat → List Int → List Int → Int → Option (Bool)
 | 0, _, _, _ => none
 | k + 1, x0, x1, x5 => if x5 < (x0.length : Int) then (if 0 ≤ x5 then (if x5 < (x1.length : Int) then (if (rd x0 x5) = (rd x1 x5) then (hanaperref01_Same.l0 k x0 x1 (wrap64 (x5 + 1))) else (some false)) else (none)) else (none)) else (some true)
def hanaperref01_Same.f (k : Nat) (l0 : List Int) (l1 : List Int) : Option (Bool) := if (l0.length : Int) = (l1.length : Int) then (hanaperref01_Same.l0 k l0 l1 0) else (some false)
set_option maxHeartbeats 8000000 in
set_option maxRecDepth 100000 in
theorem hanaperref01_Same.calls (k : Nat) (A0 : Option Addr) (c0 : Nat) (l0 : List Int) (A1 : Option Addr) (c1 : Nat) (l1 : List Int) (r : Bool) (w : World) (hr0 : Kd.C (Kd.int .u8) w A0 l0.length l0) (hc0 : l0.length ≤ c0) (hr1 : Kd.C (Kd.int .u8) w A1 l1.length l1) (hc1 : l1.length ≤ c1) (h : hanaperref01_Same.f k l0 l1 = some r) :
  Calls Try.prog 23 #[.slice A0 l0.length c0, .slice A1 l1.length c1] w fun e w' => e = .returned (.bool r) ∧ Drawn0 w w' := by
 have HR0 := Aside0.mk hr0
 have HC0 := Aside0.mk hc0
 clear hr0 hc0
 have HR1 := Aside0.mk hr1
 have HC1 := Aside0.mk hc1
 clear hr1 hc1
 have H : (if (l0.length : Int) = (l1.length : Int) then (hanaperref01_Same.l0 k l0 l1 0) else (some false)) = some r := h
 clear h
 by_cases c3 : (l0.length : Int) = (l1.length : Int)
 ·rw [if_pos c3] at H
  have c3b0 : ((l0.length : Int) == (l1.length : Int)) = true := beq_iff_eq.mpr c3
  have c3b1 : ((l0.length : Int) != (l1.length : Int)) = false := bne_eq_false_iff_eq.mpr c3
  have c3b2 : (l0.length == l1.length) = true := by first | simpa using c3 | (simp at c3 ⊢; omega)
  clear c3
  have H' := Aside0.mk H
  clear H
  go_enter Try.func23, Try.ntmps23
  go_wp2
  repeat (go_quiet (fail); try go_wp2)
  go_loopg [5] k (fun kq v5 w' => ∃ (x5_1 : Int), v5 = .int .i64 x5_1 ∧ Aside0 (hanaperref01_Same.l0 kq l0 l1 x5_1 = some r) ∧ Aside0 (kq ≤ k) ∧ Drawn0 w w')
  case atStart => exact ⟨(0), (by first | rfl | (simp; done) | (simp [*]; done)), H', ⟨Nat.le_refl _⟩, by repeat (first | exact Drawn0.refl _ | apply Drawn0.step)⟩
  case round =>
   clear H'
   (try clear c1);(try clear c2);(try clear p2);(try clear c3);(try clear c3b0);(try clear c3b1);(try clear c3b2)
   obtain ⟨x5_1, rfl, HA, HK1, ⟨m1, rfl⟩⟩ := hrel
   cases gk with
   | zero => exact absurd HA.out (by simp [hanaperref01_Same.l0])
   | succ k1 =>
    have H := HA.out
    clear HA
    simp only [hanaperref01_Same.l0] at H
    by_cases c4 : x5_1 < (l0.length : Int)
    ·rw [if_pos c4] at H
     have c4b0 : decide (x5_1 < (l0.length : Int)) = true := decide_eq_true c4
     clear c4
     by_cases c5 : 0 ≤ x5_1
     ·rw [if_pos c5] at H
      have c5b0 : decide (0 ≤ x5_1) = true := decide_eq_true c5
      clear c5
      by_cases c6 : x5_1 < (l1.length : Int)
      ·rw [if_pos c6] at H
       have c6b0 : decide (x5_1 < (l1.length : Int)) = true := decide_eq_true c6
       clear c6
       by_cases c7 : (rd l0 x5_1) = (rd l1 x5_1)
       ·rw [if_pos c7] at H
        have c7b0 : ((rd l0 x5_1) == (rd l1 x5_1)) = true := beq_iff_eq.mpr c7
        have c7b1 : ((rd l0 x5_1) != (rd l1 x5_1)) = false := bne_eq_false_iff_eq.mpr c7
        clear c7
        have H' := Aside0.mk H
        clear H
        have p101 : 0 ≤ (x5_1 : Int) := of_decide_eq_true (by first | (with_reducible assumption) | assumption)
        have q101 : x5_1 < (l0.length : Int) := of_decide_eq_true (by first | (with_reducible assumption) | assumption)
        obtain ⟨ad101, e101, hx101_0⟩ := Kd.at_int HR0.out x5_1 p101 q101
        cases e101
        replace p101 := eq_true p101
        replace q101 := eq_true q101
        have p102 : 0 ≤ (x5_1 : Int) := of_decide_eq_true (by first | (with_reducible assumption) | assumption)
        have q102 : x5_1 < (l1.length : Int) := of_decide_eq_true (by first | (with_reducible assumption) | assumption)
        obtain ⟨ad102, e102, hx102_0⟩ := Kd.at_int HR1.out x5_1 p102 q102
        cases e102
        replace p102 := eq_true p102
        replace q102 := eq_true q102
        go_wp2
        repeat (go_quiet (fail); try go_wp2)
        go_roundg k1
        case measure => have := HK1.out; omega
        case rel => exact ⟨(wrap64 (x5_1 + 1)), (by first | rfl | (simp; done) | (simp [*]; done)), H', ⟨by have := HK1.out; omega⟩, by repeat (first | exact Drawn0.refl _ | apply Drawn0.step)⟩
       ·rw [if_neg c7] at H
        have c7b0 : ((rd l0 x5_1) == (rd l1 x5_1)) = false := beq_eq_false_iff_ne.mpr c7
        have c7b1 : ((rd l0 x5_1) != (rd l1 x5_1)) = true := bne_iff_ne.mpr c7
        obtain rfl := Option.some.inj H
        have p101 : 0 ≤ (x5_1 : Int) := of_decide_eq_true (by first | (with_reducible assumption) | assumption)
        have q101 : x5_1 < (l0.length : Int) := of_decide_eq_true (by first | (with_reducible assumption) | assumption)
        obtain ⟨ad101, e101, hx101_0⟩ := Kd.at_int HR0.out x5_1 p101 q101
        cases e101
        replace p101 := eq_true p101
        replace q101 := eq_true q101
        have p102 : 0 ≤ (x5_1 : Int) := of_decide_eq_true (by first | (with_reducible assumption) | assumption)
        have q102 : x5_1 < (l1.length : Int) := of_decide_eq_true (by first | (with_reducible assumption) | assumption)
        obtain ⟨ad102, e102, hx102_0⟩ := Kd.at_int HR1.out x5_1 p102 q102
        cases e102
        replace p102 := eq_true p102
        replace q102 := eq_true q102
        go_wp2
        repeat (go_quiet (fail); try go_wp2)
        go_ret
        exact ⟨by first | rfl | (simp; done) | (simp [*]; done), by repeat (first | exact Drawn0.refl _ | apply Drawn0.step)⟩
      ·rw [if_neg c6] at H
       exact absurd H (by simp)
     ·rw [if_neg c5] at H
      exact absurd H (by simp)
    ·rw [if_neg c4] at H
     have c4b0 : decide (x5_1 < (l0.length : Int)) = false := decide_eq_false c4
     clear c4
     obtain rfl := Option.some.inj H
     go_wp2
     repeat (go_quiet (fail); try go_wp2)
     go_ret
     exact ⟨by first | rfl | (simp; done) | (simp [*]; done), by repeat (first | exact Drawn0.refl _ | apply Drawn0.step)⟩
 ·rw [if_neg c3] at H
  have c3b0 : ((l0.length : Int) == (l1.length : Int)) = false := beq_eq_false_iff_ne.mpr c3
  have c3b1 : ((l0.length : Int) != (l1.length : Int)) = true := bne_iff_ne.mpr c3
  have c3b2 : (l0.length == l1.length) = false := by first | simpa using c3 | (simp at c3 ⊢; omega)
  obtain rfl := Option.some.inj H
  go_enter Try.func23, Try.ntmps23
  go_wp2
  repeat (go_quiet (fail); try go_wp2)
  go_ret
  exact ⟨by first | rfl | (simp; done) | (simp [*]; done), by repeat (first | exact Drawn0.refl _ | apply Drawn0.step)⟩

end Go.Proofs.Ytfpkgdenohcglaa.PZ
-- printed for this claim by a program (pall.sh)
-- mended by fixpz.py
namespace Go.Proofs.Ytfpkgdenohcglaa.PZ
open Go.RowKit Go.Proofs.YtfpkgdenohcglaaW.PrintWords Go.Proofs.YtfpkgdenohcglaaW.PrintLast Go.Proofs.YtfpkgdenohcglaaW.PrintMore
attribute [local go_sem] max2_int min2_int max_two min_two max_three min_three max_four min_four   -- for this text's walks alone
set_option linter.unusedVariables false
set_option linter.unusedSimpArgs false

end Go.Proofs.Ytfpkgdenohcglaa.PZ
-- printed for this claim by a program (pall.sh)
-- mended by fixpz.py
namespace Go.Proofs.Ytfpkgdenohcglaa.PZ
open Go.RowKit Go.Proofs.YtfpkgdenohcglaaW.PrintWords Go.Proofs.YtfpkgdenohcglaaW.PrintLast Go.Proofs.YtfpkgdenohcglaaW.PrintMore
attribute [local go_sem] max2_int min2_int max_two min_two max_three min_three max_four min_four   -- for this text's walks alone
set_option linter.unusedVariables false
set_option linter.unusedSimpArgs false

end Go.Proofs.Ytfpkgdenohcglaa.PZ
/- What the lowest functions come to: numbers and texts as bytes, lists that are the same. -/
namespace Go.Proofs.Ytfpkgdenohcglaa.Lo
open Go.Proofs.Ytfpkgdenohcglaa.Base Go.Proofs.Ytfpkgdenohcglaa.TlvPlain Go.Proofs.Ytfpkgdenohcglaa.Aid Go.RowKit Go.Proofs.YtfpkgdenohcglaaW.PrintWords Go.Proofs.YtfpkgdenohcglaaW.PrintLast Go.Proofs.YtfpkgdenohcglaaW.PrintMore Go.Proofs.Ytfpkgdenohcglaa.PZ

/-- A number's bytes, the highest first. -/
def be (n : Nat) : List Int := if n = 0 then [] else be (n / 256) ++ [((n % 256 : Nat) : Int)]
termination_by n
decreasing_by omega
def numB (n : Int) : List Int := ((be n.toNat).length : Int) :: be n.toNat
def textB (l : List Int) : List Int := numB l.length ++ l
def intB (n : Int) : List Int := numB (IntKind.u64.wrap n)
theorem be_zero : be 0 = [] := by unfold be; rfl
theorem be_pos {n : Nat} (h : 0 < n) : be n = be (n / 256) ++ [((n % 256 : Nat) : Int)] := by
  rw [be, if_neg (by omega)]
theorem be_len {k : Nat} : ∀ {n : Nat}, n < 256 ^ k → (be n).length ≤ k := by
  induction k with
  | zero => intro n h; have : n = 0 := by omega
            subst this; rw [be_zero]; simp
  | succ k ih =>
    intro n h
    by_cases h0 : n = 0
    · subst h0; rw [be_zero]; simp
    · rw [be_pos (by omega), List.length_append, List.length_singleton]
      have := ih (n := n / 256) (by rw [Nat.pow_succ] at h; omega)
      omega
theorem be_u8 (n : Nat) : U8 (be n) := by
  induction n using Nat.strongRecOn with
  | ind n ih =>
    by_cases h0 : n = 0
    · subst h0; rw [be_zero]; exact U8.nil
    · rw [be_pos (by omega)]
      refine (ih (n / 256) (by omega)).append (U8.cons ?_ U8.nil)
      omega
theorem be_value (n : Nat) : valueB (be n) = n := by
  induction n using Nat.strongRecOn with
  | ind n ih =>
    by_cases h0 : n = 0
    · subst h0; rw [be_zero]; rfl
    · rw [be_pos (by omega), valueB_snoc, ih (n / 256) (by omega)]
      omega
theorem be_head (n : Nat) (h : 0 < n) : ∃ x xs, be n = x :: xs ∧ 0 < x := by
  induction n using Nat.strongRecOn with
  | ind n ih =>
    rw [be_pos h]
    by_cases h0 : n / 256 = 0
    · rw [h0, be_zero]
      exact ⟨_, [], rfl, by omega⟩
    · obtain ⟨x, xs, e, hx⟩ := ih (n / 256) (by omega) (by omega)
      rw [e]
      exact ⟨x, xs ++ [_], rfl, hx⟩
theorem be_len8 {n : Int} (h1 : n ≤ 18446744073709551615) : (be n.toNat).length ≤ 8 := be_len (by
  have : (256 : Nat) ^ 8 = 18446744073709551616 := by decide +kernel
  omega)
theorem numB_len {n : Int} (h1 : n ≤ 18446744073709551615) : (numB n).length ≤ 9 := by
  unfold numB; rw [List.length_cons]; have := be_len8 h1; omega
theorem numB_u8 {n : Int} (h1 : n ≤ 18446744073709551615) : U8 (numB n) := by
  unfold numB
  have := be_len8 h1
  exact U8.cons (by omega) (be_u8 _)
theorem u64_range (n : Int) : 0 ≤ IntKind.u64.wrap n ∧ IntKind.u64.wrap n ≤ 18446744073709551615 := by
  have : IntKind.u64.wrap n = n % 18446744073709551616 := by
    simp [IntKind.wrap, IntKind.signed, IntKind.bits]
  rw [this]; omega

/-! ### Num, as the program has it -/
theorem num_fill (w : Int) : ∀ (i m : Nat) (t : List Int), (be m).length = i → m ≤ 18446744073709551615 → i ≤ 8 →
    Ev (fun k => tlv_Num.l1 k (m : Int) (w :: (List.replicate i 0 ++ t)) (i : Int)) (w :: (be m ++ t)) := by
  intro i
  induction i with
  | zero =>
    intro m t hi hm h8
    refine Ev.step (fun k => by simp only [tlv_Num.l1]; rfl) ?_
    refine neg (by omega) (now ?_)
    have : be m = [] := List.length_eq_zero_iff.1 hi
    rw [this]; rfl
  | succ i ih =>
    intro m t hi hm h8
    have hm0 : 0 < m := by
      rcases Nat.eq_zero_or_pos m with h | h
      · subst h; rw [be_zero] at hi; cases hi
      · exact h
    have hb := be_pos hm0
    refine Ev.step (fun k => by simp only [tlv_Num.l1]; rfl) ?_
    refine pos (by omega) (pos (by omega) (pos (by simp; omega) ?_))
    have e1 : wrap64 (((i + 1 : Nat) : Int) - 1) = (i : Int) := by rw [w64 (by omega) (by omega)]; omega
    have e2 : ((m : Int) % 256) = ((m % 256 : Nat) : Int) := by omega
    have e3 : ((m : Int) / 256) = ((m / 256 : Nat) : Int) := by omega
    have e4 : (w :: (List.replicate (i + 1) 0 ++ t)).set (((i + 1 : Nat) : Int)).toNat ((m : Int) % 256) = w :: (List.replicate i 0 ++ (((m % 256 : Nat) : Int) :: t)) := by
      rw [Int.toNat_natCast, List.set_cons_succ, e2, List.replicate_succ']
      congr 1
      rw [List.append_assoc, List.set_append_right _ _ (by simp)]
      simp
    rw [e1, e3, e4]
    have := ih (m / 256) (((m % 256 : Nat) : Int) :: t) (by rw [hb] at hi; simpa using hi) (by omega) (by omega)
    rw [hb, List.append_assoc]
    exact this
theorem num_count (n : Int) (hn0 : 0 ≤ n) (hn1 : n ≤ 18446744073709551615) : ∀ (m c : Nat), c + (be m).length = (be n.toNat).length → m ≤ 18446744073709551615 →
    Ev (fun k => tlv_Num.l0 k n (c : Int) (m : Int)) (numB n) := by
  intro m
  induction m using Nat.strongRecOn with
  | ind m ih =>
    intro c hc hm
    have h8 := be_len8 hn1
    refine Ev.step (fun k => by simp only [tlv_Num.l0]; rfl) ?_
    by_cases h0 : m = 0
    · subst h0
      rw [be_zero] at hc
      simp only [List.length_nil, Nat.add_zero] at hc
      have e1 : wrap64 (1 + (c : Int)) = ((c + 1 : Nat) : Int) := by rw [w64 (by omega) (by omega)]; omega
      rw [e1, Int.toNat_natCast]
      refine neg (by omega) (pos (by omega) (pos (by omega) ?_))
      refine bindSome rfl (pos (by simp) ?_)
      have e2 : (List.replicate (c + 1) (0 : Int)).set ((0 : Int)).toNat ((c : Int) % 256) = (c : Int) :: (List.replicate c 0 ++ []) := by
        rw [List.replicate_succ, show ((0 : Int)).toNat = 0 from rfl, List.set_cons_zero, List.append_nil, Int.emod_eq_of_lt (by omega) (by omega)]
      rw [e2]
      obtain ⟨q, rfl⟩ := Int.eq_ofNat_of_zero_le hn0
      have := num_fill (c : Int) c q [] (by rw [hc]; rfl) (by omega) (by omega)
      unfold numB
      rw [Int.toNat_natCast] at hc ⊢
      rw [← hc]
      simpa using this
    · refine pos (by omega) ?_
      have hb := be_pos (show 0 < m by omega)
      rw [hb, List.length_append, List.length_singleton] at hc
      have e1 : wrap64 ((c : Int) + 1) = ((c + 1 : Nat) : Int) := by rw [w64 (by omega) (by omega)]; omega
      have e3 : ((m : Int) / 256) = ((m / 256 : Nat) : Int) := by omega
      rw [e1, e3]
      exact ih (m / 256) (by omega) (c + 1) (by omega) (by omega)
theorem num_ev (n : Int) (hn0 : 0 ≤ n) (hn1 : n ≤ 18446744073709551615) : Ev (fun k => tlv_Num.f k n) (numB n) := by
  have := num_count n hn0 hn1 n.toNat 0 (by omega) (by omega)
  rw [show ((n.toNat : Nat) : Int) = n from by omega] at this
  exact this
/-! ### texts and ints -/
theorem len_u64 (l : List Int) (h : l.length < 140737488355000) : IntKind.u64.wrap ((l.length : Nat) : Int) = l.length := u64 (by omega) (by omega)
theorem text_ev (l : List Int) (h : l.length < 140737488355000) : Ev (fun k => tlv_Text.f k l) (textB l) := by
  unfold tlv_Text.f
  rw [len_u64 l h]
  refine evBind (num_ev _ (by omega) (by omega)) (pos ?_ (now rfl))
  have := numB_len (n := (l.length : Int)) (by omega)
  omega
theorem int_ev (n : Int) : Ev (fun k => tlv_Int.f k n) (intB n) := by
  unfold tlv_Int.f
  exact evBind (num_ev _ (u64_range n).1 (u64_range n).2) (now rfl)
theorem all_loop (l : List (List Int)) (hl : l.length ≤ 4611686018427387904) (ht : l.flatten.length < 140737488355328) : ∀ (d i : Nat), i + d = l.length →
    Ev (fun k => tlv_All.l0 k (l.take i).flatten l (l.length : Int) (i : Int)) l.flatten := by
  intro d
  induction d with
  | zero =>
    intro i hi
    refine Ev.step (fun k => by simp only [tlv_All.l0]; rfl) ?_
    refine neg (by omega) (now ?_)
    rw [List.take_of_length_le (by omega)]
  | succ d ih =>
    intro i hi
    have hil : i < l.length := by omega
    refine Ev.step (fun k => by simp only [tlv_All.l0]; rfl) ?_
    have e : rd_L1 l (i : Int) = l[i] := by simp [rd_L1, List.getD_eq_getElem?_getD, List.getElem?_eq_getElem hil]
    have e2 : (l.take i).flatten ++ l[i] = (l.take (i + 1)).flatten := by rw [take_snoc l i hil, List.flatten_append]; simp
    rw [e, inc hil hl, e2]
    refine pos (by omega) (pos (by omega) (pos (by omega) (pos ?_ (ih (i + 1) (by omega)))))
    have h1 : (l.take i).flatten.length + l[i].length = (l.take (i + 1)).flatten.length := by rw [← e2, List.length_append]
    have h2 : l.flatten = (l.take (i + 1)).flatten ++ (l.drop (i + 1)).flatten := by rw [← List.flatten_append, List.take_append_drop]
    rw [h2, List.length_append] at ht
    omega
theorem all_ev (l : List (List Int)) (hl : l.length ≤ 4611686018427387904) (ht : l.flatten.length < 140737488355328) : Ev (fun k => tlv_All.f k l) l.flatten := by
  have := all_loop l hl ht l.length 0 (by omega)
  exact this
/-! ### lists that are the same -/
theorem same_from (a b : List Int) (hl : a.length = b.length) (hn : a.length ≤ 4611686018427387904) : ∀ (d i : Nat), i + d = a.length →
    Ev (fun k => hanaperref01_Same.l0 k a b i) (decide (a.drop i = b.drop i)) := by
  intro d
  induction d with
  | zero =>
    intro i hi
    refine Ev.step (fun k => by simp only [hanaperref01_Same.l0]; rfl) ?_
    refine neg (by omega) (now ?_)
    rw [List.drop_of_length_le (by omega), List.drop_of_length_le (by omega)]; simp
  | succ d ih =>
    intro i hi
    refine Ev.step (fun k => by simp only [hanaperref01_Same.l0]; rfl) ?_
    refine pos (by omega) (pos (by omega) (pos (by omega) ?_))
    rw [rd_nat a i (by omega), rd_nat b i (by omega), drop_cons a i (by omega), drop_cons b i (by omega), inc (show i < a.length by omega) hn]
    by_cases e : a[i]'(by omega) = b[i]'(by omega)
    · refine pos e ?_
      have := ih (i + 1) (by omega)
      generalize a.drop (i + 1) = A at this ⊢
      generalize b.drop (i + 1) = B at this ⊢
      simpa [e] using this
    · refine neg e (now ?_)
      generalize a.drop (i + 1) = A
      generalize b.drop (i + 1) = B
      simp [e]
theorem same_ev (a b : List Int) (hn : a.length ≤ 4611686018427387904) : Ev (fun k => hanaperref01_Same.f k a b) (decide (a = b)) := by
  unfold hanaperref01_Same.f
  by_cases e : a.length = b.length
  · refine pos (by omega) ?_
    simpa using same_from a b e hn a.length 0 (by omega)
  · refine neg (by omega) (now ?_)
    have : a ≠ b := fun h => e (by rw [h])
    simp [this]
/-! ### what was put is read -/
theorem numO_numB (n : Int) (hn0 : 0 ≤ n) (hn1 : n ≤ 18446744073709551615) (rest : List Int) : numO (some (numB n ++ rest)) = (n, some rest) := by
  have h8 := be_len8 hn1
  unfold numB numO
  simp only [List.cons_append]
  rw [if_neg (by omega), if_neg (by rw [List.length_append]; omega), if_neg, Int.toNat_natCast]
  · rw [List.take_left', List.drop_left', be_value]
    · rw [Int.toNat_of_nonneg hn0]
    · rfl
    · rfl
  · rintro ⟨h1, h2⟩
    have : 0 < n.toNat := by
      rcases Nat.eq_zero_or_pos n.toNat with h | h
      · rw [h, be_zero] at h1; simp at h1
      · exact h
    obtain ⟨x, xs, e, hx⟩ := be_head n.toNat this
    rw [e] at h2
    simp at h2
    omega
end Go.Proofs.Ytfpkgdenohcglaa.Lo
/- The lowest functions, each with what it answers. -/
namespace Go.Proofs.Ytfpkgdenohcglaa.Lo
open Go.Proofs.Ytfpkgdenohcglaa.Base Go.Proofs.Ytfpkgdenohcglaa.TlvPlain Go.Proofs.Ytfpkgdenohcglaa.Aid Go.RowKit Go.Proofs.YtfpkgdenohcglaaW.PrintWords Go.Proofs.YtfpkgdenohcglaaW.PrintLast Go.Proofs.YtfpkgdenohcglaaW.PrintMore Go.Proofs.Ytfpkgdenohcglaa.PZ

/-- New bytes. -/
def Makes (w : World) (bs : List Int) (e : Ending) (w' : World) : Prop := ∃ v : Value, e = .returned v ∧ Ob w' w.heap.size v bs ∧ Below w.heap.size w w'
theorem same_c (A0 : Option Addr) (c0 : Nat) (a : List Int) (A1 : Option Addr) (c1 : Nat) (b : List Int) (w : World) (h0 : Rb w A0 a) (hc0 : a.length ≤ c0) (h1 : Rb w A1 b) (hc1 : b.length ≤ c1) (hn : a.length ≤ 4611686018427387904) :
    Calls Try.prog 23 #[.slice A0 a.length c0, .slice A1 b.length c1] w fun e w' => e = .returned (.bool (decide (a = b))) ∧ Drawn0 w w' := by
  obtain ⟨k, h⟩ := (same_ev a b hn).rounds
  exact hanaperref01_Same.calls k A0 c0 a A1 c1 b _ w h0 hc0 h1 hc1 h
theorem num_c (n : Int) (w : World) (h0 : 0 ≤ n) (h1 : n ≤ 18446744073709551615) : Calls Try.prog 65 #[.int .u64 n] w (Makes w (numB n)) := by
  obtain ⟨k, h⟩ := (num_ev n h0 h1).rounds
  exact tlv_Num.calls k n _ w h
theorem text_c (A0 : Option Addr) (c0 : Nat) (l : List Int) (w : World) (hr : Rb w A0 l) (hc : l.length ≤ c0) (hl : l.length < 140737488355000) : Calls Try.prog 66 #[.slice A0 l.length c0] w (Makes w (textB l)) := by
  obtain ⟨k, h⟩ := (text_ev l hl).rounds
  exact tlv_Text.calls k A0 c0 l _ w hr hc h
theorem int_c (n : Int) (w : World) : Calls Try.prog 84 #[.int .i64 n] w (Makes w (intB n)) := by
  obtain ⟨k, h⟩ := (int_ev n).rounds
  exact tlv_Int.calls k n _ w h
theorem all_c (A0 : Option Addr) (c0 : Nat) (l : List (List Int)) (w : World) (hr : Kd.C (Kd.slice 5 (Kd.int .u8)) w A0 l.length l) (hc : l.length ≤ c0) (hl : l.length ≤ 4611686018427387904) (ht : l.flatten.length < 140737488355328) :
    Calls Try.prog 64 #[.slice A0 l.length c0] w (Makes w l.flatten) := by
  obtain ⟨k, h⟩ := (all_ev l hl ht).rounds
  exact tlv_All.calls k A0 c0 l _ w hr hc h
end Go.Proofs.Ytfpkgdenohcglaa.Lo

-- printed for this claim by a program (pall.sh)
-- mended by fixpz.py
namespace Go.Proofs.Ytfpkgdenohcglaa.PZ
open Go.RowKit Go.Proofs.YtfpkgdenohcglaaW.PrintWords Go.Proofs.YtfpkgdenohcglaaW.PrintLast Go.Proofs.YtfpkgdenohcglaaW.PrintMore
attribute [local go_sem] max2_int min2_int max_two min_two max_three min_three max_four min_four   -- for this text's walks alone
set_option linter.unusedVariables false
set_option linter.unusedSimpArgs false

end Go.Proofs.Ytfpkgdenohcglaa.PZ
/- commit: Of walked, and the document's. -/
namespace Go.Proofs.Ytfpkgdenohcglaa.Com
set_option linter.unusedVariables false
set_option linter.unusedSimpArgs false
open Go.RowKit Go.Proofs.Ytfpkgdenohcglaa.Base Go.Proofs.Ytfpkgdenohcglaa.TlvPlain Go.Proofs.Ytfpkgdenohcglaa.ShaPlain Go.Proofs.Ytfpkgdenohcglaa.Sha Go.Proofs.Ytfpkgdenohcglaa.Lo Go.Proofs.Ytfpkgdenohcglaa.Aid Go.Proofs.YtfpkgdenohcglaaW.PrintWords Go.Proofs.YtfpkgdenohcglaaW.PrintLast Go.Proofs.YtfpkgdenohcglaaW.PrintMore Go.Proofs.Ytfpkgdenohcglaa.PZ
/-- What is summed for a commitment. -/
def comB (salt : Int) (b : List Int) : List Int := 1 :: (numB salt ++ textB b)
theorem textB_u8 {l : List Int} (h : U8 l) (hl : l.length ≤ 1000000) : U8 (textB l) := fun x hx => (List.mem_append.1 hx).elim (numB_u8 (by omega) x) (h x)
theorem textB_len {l : List Int} (hl : l.length ≤ 1000000) : (textB l).length ≤ l.length + 9 := by
  have := numB_len (n := (l.length : Int)) (by omega)
  unfold textB
  rw [List.length_append]
  omega
set_option maxHeartbeats 4000000 in
set_option maxRecDepth 100000 in
theorem cof_c (salt : Int) (h0 : 0 ≤ salt) (h1 : salt ≤ 18446744073709551615) (A : Option Addr) (c : Nat) (l : List Int) (w : World) (hr : Rb w A l) (hc : l.length ≤ c) (hu : U8 l) (hl : l.length ≤ 100000) :
    Calls Try.prog 50 #[.int .u64 salt, .slice A l.length c] w fun e w' => e = .returned (sumV (shaB (comB salt l))) ∧ Below w.heap.size w w' := by
  have HS := Aside0.mk (And.intro h0 h1)
  have HR := Aside0.mk hr
  have HC := Aside0.mk hc
  have HU := Aside0.mk hu
  have HL := Aside0.mk hl
  have HZ := Aside0.mk (show (w.alloc (.cells Z32 23)).heap[w.heap.size]? = some (.cells Z32 23 (0, 0)) from blk_new _ _)
  have HB := Aside0.mk (below_alloc (Below.refl w.heap.size w) (.cells Z32 23))
  clear hr hu hl hc h0 h1
  go_enter Try.func50, Try.ntmps50
  go_wp2_with (fail)
  refine (num_c salt _ HS.out.1 HS.out.2).mono ?_
  rintro e w1 ⟨v, rfl, ho, hb⟩
  have HZ1 := Aside0.mk (blk_below HZ.out hb)
  have HB1 := Aside0.mk (below_step HB.out hb)
  clear hb HZ HB
  obtain ⟨An, cn, rfl, hl_, hr_⟩ := Ob.reads ho; have HRn := Aside0.mk hr_; have HLn := Aside0.mk hl_; clear ho hl_ hr_
  go_wp2_with (fail)
  refine (text_c A c l w1 (Kd.C_below HR.out HB1.out) HC.out (by have := HL.out; omega)).mono ?_
  rintro e w2 ⟨v, rfl, ho, hb⟩
  have HZ2 := Aside0.mk (blk_below HZ1.out hb)
  have HB2 := Aside0.mk (below_step HB1.out hb)
  have HRn2 := Aside0.mk (Kd.C_below HRn.out hb)
  clear hb
  obtain ⟨At, ct, rfl, hl_, hr_⟩ := Ob.reads ho; have HRt := Aside0.mk hr_; have HLt := Aside0.mk hl_; clear ho hl_ hr_
  go_wp2_with ((with_reducible refine gate_dst (N := 9) rfl ?_); refine lit_rows (N := 9) (e := 25) ?hg ?hd [numB salt, textB l] [.slice An (numB salt).length cn, .slice At (textB l).length ct] (rows2 HRn2.out HLn.out HRt.out HLt.out) ?hr (by simp) ?_; (case hd => rfl); (case hg => rfl); (case hr => first | (go_simp; done) | (go_simp; rfl)); intro A9 w4 hrr hb; have HRR := Aside0.mk hrr; have HZ4 := Aside0.mk (blk_below HZ2.out hb); have HB4 := Aside0.mk (below_step HB2.out hb); clear hb hrr)
  obtain ⟨D, hD⟩ : ∃ D, (nums .u8 (shaB (comB salt l))).toArray = D := ⟨_, rfl⟩
  have HD := Aside0.mk hD
  have hds : D.size = 32 := by rw [← hD]; simp [nums, shaB_len]
  have HIF := Aside0.mk (show (Try.prog.info? 23).map (·.size) = some D.size by rw [hds]; exact info_32)
  have HSZ := Aside0.mk (show Z32.size = D.size by rw [hds]; simp [Z32, nums])
  have HONE := Aside0.mk (show D.all (·.oneCell') = true by rw [← hD]; exact nums_one _ _)
  clear hD hds
  refine (csum_c 1 (by decide) A9 2 [numB salt, textB l] w4 HRR.out (by simp) (by
    intro p hp x hx
    rcases List.mem_cons.1 hp with rfl | hp
    · exact numB_u8 HS.out.2 x hx
    · rw [List.mem_singleton.1 hp] at hx
      exact textB_u8 HU.out (by have := HL.out; omega) x hx) (by
    have h2 := numB_len HS.out.2
    have h3 := textB_len (l := l) (by have := HL.out; omega)
    have h4 := HL.out
    simp only [List.flatten_cons, List.flatten_nil, List.append_nil, List.length_append]
    omega) (by simp)).mono ?_
  rintro e w6 ⟨rfl, hb6⟩
  rw [show sumV (shaB (1 :: [numB salt, textB l].flatten)) = .agg D by rw [← HD.out, comB]; simp]
  have HZ6 := Aside0.mk (blk_below HZ4.out hb6)
  have HB6 := Aside0.mk (below_step HB4.out hb6)
  clear hb6
  go_wp2_with ((with_reducible refine gate_store (t := 23) (p := 4) (v := .tmp 10) rfl ?_); refine wpList_store_row rfl 23 (.tmp 4) (.tmp 10) rfl w.heap.size D rfl rfl 23 Z32 HZ6.out HIF.out HSZ.out HONE.out ?_)
  have HSR := setRow_heap w6 w.heap.size Z32 D _ _ HZ6.out
  refine bodyPost_ret (v := .agg D) (results_cell_row rfl _ _ w.heap.size 23 D (0, 0) _ rfl HSR Try.underlying23 rfl HIF.out) rfl ⟨by rw [← HD.out], below_setRow HB6.out (Nat.le_refl _) D⟩
end Go.Proofs.Ytfpkgdenohcglaa.Com
/- The document's Hex walked. -/
namespace Go.Proofs.Ytfpkgdenohcglaa.Sha
set_option linter.unusedVariables false
open Go.RowKit Go.Proofs.Ytfpkgdenohcglaa.Base Go.Proofs.Ytfpkgdenohcglaa.ShaPlain Go.Proofs.Ytfpkgdenohcglaa.Aid Go.Proofs.YtfpkgdenohcglaaW.PrintWords Go.Proofs.YtfpkgdenohcglaaW.PrintLast Go.Proofs.YtfpkgdenohcglaaW.PrintMore
end Go.Proofs.Ytfpkgdenohcglaa.Sha
/- ShaSums: the law's walk. -/
namespace Go.Proofs.Ytfpkgdenohcglaa.Sha
set_option linter.unusedVariables false
set_option linter.unusedSimpArgs false
open Go.RowKit Go.Proofs.Ytfpkgdenohcglaa.Base Go.Proofs.Ytfpkgdenohcglaa.ShaPlain Go.Proofs.Ytfpkgdenohcglaa.Aid Go.Proofs.YtfpkgdenohcglaaW.PrintWords Go.Proofs.YtfpkgdenohcglaaW.PrintLast Go.Proofs.YtfpkgdenohcglaaW.PrintMore
theorem range_blk {w : World} {g T : Nat} {cs : List Value} (h : w.heap[g]? = some (.cells cs.toArray T (0, 0))) : w.rangeAt g 0 cs := fun j v hv => by
  rw [Nat.zero_add, blk_cell h j]
  simpa using hv
end Go.Proofs.Ytfpkgdenohcglaa.Sha
/- commit: Check walked; the example of layer 7. -/
namespace Go.Proofs.Ytfpkgdenohcglaa.Com
set_option linter.unusedVariables false
set_option linter.unusedSimpArgs false
open Go.RowKit Go.Proofs.Ytfpkgdenohcglaa.Base Go.Proofs.Ytfpkgdenohcglaa.TlvPlain Go.Proofs.Ytfpkgdenohcglaa.ShaPlain Go.Proofs.Ytfpkgdenohcglaa.Sha Go.Proofs.Ytfpkgdenohcglaa.Lo Go.Proofs.Ytfpkgdenohcglaa.Aid Go.Proofs.YtfpkgdenohcglaaW.PrintWords Go.Proofs.YtfpkgdenohcglaaW.PrintLast Go.Proofs.YtfpkgdenohcglaaW.PrintMore
theorem size_32 {cs : List Value} (h : cs.length = 32) : (Try.prog.info? 23).map (·.size) = some cs.length := by rw [h]; exact info_32
set_option maxHeartbeats 4000000 in
set_option maxRecDepth 100000 in
theorem chk_c (com : List Int) (hcom : com.length = 32) (salt : Int) (h0 : 0 ≤ salt) (h1 : salt ≤ 18446744073709551615) (A : Option Addr) (c : Nat) (l : List Int) (w : World) (hr : Rb w A l) (hc : l.length ≤ c) (hu : U8 l) (hl : l.length ≤ 100000) :
    Calls Try.prog 71 #[.agg (nums .u8 com).toArray, .int .u64 salt, .slice A l.length c] w fun e w' => e = .returned (.bool (decide (shaB (comB salt l) = com))) ∧ Below w.heap.size w w' := by
  have HR := Aside0.mk hr
  have HOF := Aside0.mk (fun W (hW : Rb W A l) => cof_c salt h0 h1 A c l W hW hc hu hl)
  have HEQ := Aside0.mk (run_eq_sum (shaB (comB salt l)) com (shaB_len _) hcom)
  obtain ⟨bb, hbb⟩ : ∃ bb, decide (shaB (comB salt l) = com) = bb := ⟨_, rfl⟩
  obtain ⟨cs, hcs⟩ : ∃ cs, nums .u8 (shaB (comB salt l)) = cs := ⟨_, rfl⟩
  obtain ⟨cc, hcc⟩ : ∃ cc, nums .u8 com = cc := ⟨_, rfl⟩
  have HIC := Aside0.mk (size_32 (cs := cc) (by rw [← hcc]; simp [nums, hcom]))
  simp only [sumV] at HOF HEQ
  rw [hcs] at HOF
  rw [hcs, hcc, hbb] at HEQ
  rw [hcc, hbb]
  clear hr hc hu hl h0 h1 hcom hcs hcc hbb
  go_enter Try.func71, Try.ntmps71
  go_wp2_with (fail)
  have HG := Aside0.mk (show (w.alloc (.cells cc.toArray 23)).heap[w.heap.size]? = some (.cells cc.toArray 23 (0, 0)) from blk_new _ _)
  have HB := Aside0.mk (below_alloc (Below.refl w.heap.size w) (.cells cc.toArray 23))
  obtain ⟨W, hW⟩ : ∃ W, w.alloc (.cells cc.toArray 23) = W := ⟨_, rfl⟩
  obtain ⟨g, hg⟩ : ∃ g, w.heap.size = g := ⟨_, rfl⟩
  rw [hW] at HG HB ⊢
  rw [hg] at HG ⊢
  clear hW hg
  have hguard := guard_32
  have heq := HEQ.out
  have hu24 := Try.underlying23
  refine wp_region_held_drew (S := fun w' => w'.rangeAt g 0 cc) (by kernel_rfl) (range_blk HG.out) (fun hHeld => ?_)
  (refine wpAnyH_take (i := 0) (v := ?_) rfl (by kernel_rfl) (by kernel_rfl) (by kernel_rfl) (fun _ _ _ h => h) (Or.inl ⟨by rfl, ?_⟩) (by assumption) ?_; (case' refine_2 => (intro w hSw; go_simp; try with_reducible rfl)); (try simp only [Act.put, List.getElem_toArray, List.getElem_cons_zero, List.getElem_cons_succ, List.setIfInBounds_toArray, List.set_cons_zero, List.set_cons_succ]))
  (refine wpAnyH_take (i := 1) (v := ?_) rfl (by kernel_rfl) (by kernel_rfl) (by kernel_rfl) (fun _ _ _ h => h) (Or.inl ⟨by rfl, ?_⟩) (by assumption) ?_; (case' refine_2 => (intro w hSw; go_simp; try with_reducible rfl)); (try simp only [Act.put, List.getElem_toArray, List.getElem_cons_zero, List.getElem_cons_succ, List.setIfInBounds_toArray, List.set_cons_zero, List.set_cons_succ]))
  (refine wpAnyH_take (i := 3) rfl (by kernel_rfl) (by kernel_rfl) (by kernel_rfl) (fun _ _ _ h => h) (yieldsIf_load_mid (by rfl) _ _ rfl _ _ rfl _ _ (fun _ h => h) (by assumption) rfl HIC.out) (by assumption) ?_; (try simp only [Act.put, List.getElem_toArray, List.getElem_cons_zero, List.getElem_cons_succ, List.setIfInBounds_toArray, List.set_cons_zero, List.set_cons_succ]))
  (refine wpAnyH_ready (rs := [2]) (by kernel_rfl) (by simp) (AllReadyH.cons rfl (fun K hK => ?_) AllReadyH.nil); go_simp)
  refine (HOF.out _ (Kd.C_below HR.out (below_drew1 HB.out))).mono ?_
  rintro e w3 ⟨rfl, hb⟩
  have HG3 := Aside0.mk (blk_below HG.out (below_drew_of hb))
  have HB3 := Aside0.mk (below_step HB.out (below_drew_of hb))
  clear hb
  (refine Shut.out hK _ _ (range_blk HG3.out) (fun hHeld => ?_); clear hK K; (try simp only [Act.put, List.getElem_toArray, List.getElem_cons_zero, List.getElem_cons_succ, List.setIfInBounds_toArray, List.set_cons_zero, List.set_cons_succ]))
  (refine wpAnyH_take (i := 4) (v := ?_) rfl (by kernel_rfl) (by kernel_rfl) (by kernel_rfl) (fun _ _ _ h => h) (Or.inl ⟨by rfl, ?_⟩) (by assumption) ?_; (case' refine_2 => (intro w hSw; go_simp; try with_reducible rfl)); (try simp only [Act.put, List.getElem_toArray, List.getElem_cons_zero, List.getElem_cons_succ, List.setIfInBounds_toArray, List.set_cons_zero, List.set_cons_succ]))
  (refine wpAnyH_take (i := 5) (v := ?_) rfl (by kernel_rfl) (by kernel_rfl) (by kernel_rfl) (fun _ _ _ h => h) (Or.inl ⟨by rfl, ?_⟩) (by assumption) ?_; (case' refine_2 => (intro w hSw; go_simp; try with_reducible rfl)); (try simp only [Act.put, List.getElem_toArray, List.getElem_cons_zero, List.getElem_cons_succ, List.setIfInBounds_toArray, List.set_cons_zero, List.set_cons_succ]))
  refine wpAnyH_done (by kernel_rfl) ?_ _
  go_wp2_with (fail)
  go_ret
  exact ⟨rfl, HB3.out⟩
end Go.Proofs.Ytfpkgdenohcglaa.Com
/- What an array argument reads as. -/
namespace Go.Proofs.Ytfpkgdenohcglaa.Open
open Go.Proofs.Ytfpkgdenohcglaa.Base Go.RowKit Go.Proofs.YtfpkgdenohcglaaW.PrintWords Go.Proofs.YtfpkgdenohcglaaW.PrintLast Go.Proofs.YtfpkgdenohcglaaW.PrintMore
/-- The cells of an array of numbers. -/
theorem nums_arr {w : World} {k : IntKind} {N : Nat} {hs : 0 < (Kd.int k).sz} {xs : List Int} {cs : List Value} (h : (Kd.arr N (Kd.int k) hs).K w xs cs) : cs = nums k xs := by
  apply List.ext_getElem?
  intro i
  have hl : cs.length = xs.length := by rw [h.2.1]; show _ * 1 = _; omega
  cases hx : xs[i]? with
  | none =>
    rw [List.getElem?_eq_none_iff] at hx
    rw [List.getElem?_eq_none_iff.2 (by omega), nums, List.getElem?_map, List.getElem?_eq_none_iff.2 hx]
    rfl
  | some y =>
    have hi := (List.getElem?_eq_some_iff.1 hx).1
    have h2 := h.2.2 i y hx
    rw [nums, List.getElem?_map, hx]
    have h3 : (cs.drop (i * (Kd.int k).sz)).take (Kd.int k).sz = [.int k y] := h2
    have h4 : ((cs.drop (i * (Kd.int k).sz)).take (Kd.int k).sz)[0]? = cs[i]? := by
      rw [List.getElem?_take, if_pos hs, List.getElem?_drop, show i * (Kd.int k).sz + 0 = i by show i * 1 + 0 = i; omega]
    rw [← h4, h3]
    rfl
end Go.Proofs.Ytfpkgdenohcglaa.Open
/- CommitOf: the law's walk. -/
namespace Go.Proofs.Ytfpkgdenohcglaa.Com
set_option linter.unusedVariables false
set_option linter.unusedSimpArgs false
open Go.RowKit Go.Proofs.Ytfpkgdenohcglaa.Base Go.Proofs.Ytfpkgdenohcglaa.TlvPlain Go.Proofs.Ytfpkgdenohcglaa.ShaPlain Go.Proofs.Ytfpkgdenohcglaa.Sha Go.Proofs.Ytfpkgdenohcglaa.Lo Go.Proofs.Ytfpkgdenohcglaa.Aid Go.Proofs.YtfpkgdenohcglaaW.PrintWords Go.Proofs.YtfpkgdenohcglaaW.PrintLast Go.Proofs.YtfpkgdenohcglaaW.PrintMore
theorem u64_wf {n : Int} (h : (Lit.int .u64 n).wf = true) : 0 ≤ n ∧ n ≤ 18446744073709551615 := by
  simp only [Lit.wf, IntKind.min, IntKind.max, IntKind.signed, IntKind.bits, Bool.and_eq_true] at h
  simp at h
  omega
end Go.Proofs.Ytfpkgdenohcglaa.Com
/- commit: Link walked. -/
namespace Go.Proofs.Ytfpkgdenohcglaa.Com
set_option linter.unusedVariables false
set_option linter.unusedSimpArgs false
open Go.RowKit Go.Proofs.Ytfpkgdenohcglaa.Base Go.Proofs.Ytfpkgdenohcglaa.TlvPlain Go.Proofs.Ytfpkgdenohcglaa.ShaPlain Go.Proofs.Ytfpkgdenohcglaa.Sha Go.Proofs.Ytfpkgdenohcglaa.Lo Go.Proofs.Ytfpkgdenohcglaa.Aid Go.Proofs.YtfpkgdenohcglaaW.PrintWords Go.Proofs.YtfpkgdenohcglaaW.PrintLast Go.Proofs.YtfpkgdenohcglaaW.PrintMore
/-- What is summed for a link. -/
def linkB (seq : Int) (p c : List Int) : List Int := 2 :: (intB seq ++ (p ++ c))
theorem rb_blk {w : World} {g T : Nat} {xs : List Int} (h : w.heap[g]? = some (.cells (nums .u8 xs).toArray T (0, 0))) (hm : xs.length ≤ 9223372036854775807) : Rb w (some ⟨g, 0, none⟩) xs := by
  refine Kd.C_of_reads (d := (0 : Int)) ⟨rfl, hm, fun _ => ⟨_, rfl, fun j hj => ?_⟩⟩
  rw [add_plain, blk_cell h j]
  simp [nums, List.getElem?_eq_getElem hj, rd, List.getD_eq_getElem?_getD]
set_option maxHeartbeats 4000000 in
set_option maxRecDepth 100000 in
theorem link_c (seq : Int) (p q : List Int) (hp : p.length = 32) (hq : q.length = 32) (hpu : U8 p) (hqu : U8 q) (w : World) :
    Calls Try.prog 91 #[.int .i64 seq, .agg (nums .u8 p).toArray, .agg (nums .u8 q).toArray] w fun e w' => e = .returned (sumV (shaB (linkB seq p q))) ∧ Below w.heap.size w w' := by
  obtain ⟨P, hP⟩ : ∃ P, (nums .u8 p).toArray = P := ⟨_, rfl⟩
  obtain ⟨C, hC⟩ : ∃ C, (nums .u8 q).toArray = C := ⟨_, rfl⟩
  have HP := Aside0.mk hP
  have HC := Aside0.mk hC
  have HLP := Aside0.mk (And.intro hp hq)
  have HU := Aside0.mk (And.intro hpu hqu)
  rw [hP, hC]
  clear hP hC hp hq hpu hqu
  go_enter Try.func91, Try.ntmps91
  go_wp2_with (fail)
  have e1 : (w.alloc (.cells P 23)).heap.size = w.heap.size + 1 := by simp
  have e2 : ((w.alloc (.cells P 23)).alloc (.cells C 23)).heap.size = w.heap.size + 1 + 1 := by simp
  have HG := Aside0.mk (show (((w.alloc (.cells P 23)).alloc (.cells C 23)).alloc (.cells Z32 23)).heap[w.heap.size]? = some (.cells P 23 (0, 0)) from blk_alloc (blk_alloc (blk_new _ _) _) _)
  have HH := Aside0.mk (show (((w.alloc (.cells P 23)).alloc (.cells C 23)).alloc (.cells Z32 23)).heap[w.heap.size + 1]? = some (.cells C 23 (0, 0)) from blk_alloc (second_new' _ _ _) _)
  have HZ := Aside0.mk (show (((w.alloc (.cells P 23)).alloc (.cells C 23)).alloc (.cells Z32 23)).heap[w.heap.size + 1 + 1]? = some (.cells Z32 23 (0, 0)) from third_new _ _ _ _)
  have HB := Aside0.mk (show Below w.heap.size w (((w.alloc (.cells P 23)).alloc (.cells C 23)).alloc (.cells Z32 23)) from below_alloc (below_alloc (below_alloc (Below.refl _ _) _) _) _)
  obtain ⟨W, hW⟩ : ∃ W, ((w.alloc (.cells P 23)).alloc (.cells C 23)).alloc (.cells Z32 23) = W := ⟨_, rfl⟩
  rw [hW] at HG HH HZ HB
  rw [show ((w.alloc (.cells P 23)).alloc (.cells C 23)).alloc (.cells #[.int .u8 0, .int .u8 0, .int .u8 0, .int .u8 0, .int .u8 0, .int .u8 0, .int .u8 0, .int .u8 0, .int .u8 0, .int .u8 0, .int .u8 0, .int .u8 0, .int .u8 0, .int .u8 0, .int .u8 0, .int .u8 0, .int .u8 0, .int .u8 0, .int .u8 0, .int .u8 0, .int .u8 0, .int .u8 0, .int .u8 0, .int .u8 0, .int .u8 0, .int .u8 0, .int .u8 0, .int .u8 0, .int .u8 0, .int .u8 0, .int .u8 0, .int .u8 0] 23) = W from hW]
  clear hW e1 e2
  obtain ⟨g0, hg0⟩ : ∃ g, w.heap.size = g := ⟨_, rfl⟩
  have HG0 := Aside0.mk hg0
  rw [hg0] at HG HH HZ ⊢
  clear hg0
  refine wp_region_held_drew (S := fun _ => True) (by kernel_rfl) trivial (fun hHeld => ?_)
  (refine wpAnyH_take (i := 0) (v := ?_) rfl (by kernel_rfl) (by kernel_rfl) (by kernel_rfl) (fun _ _ _ h => h) (Or.inl ⟨by rfl, ?_⟩) (by assumption) ?_; (case' refine_2 => (intro w hSw; go_simp; try with_reducible rfl)); (try simp only [Act.put, List.getElem_toArray, List.getElem_cons_zero, List.getElem_cons_succ, List.setIfInBounds_toArray, List.set_cons_zero, List.set_cons_succ]))
  (refine wpAnyH_take (i := 2) (v := ?_) rfl (by kernel_rfl) (by kernel_rfl) (by kernel_rfl) (fun _ _ _ h => h) (Or.inl ⟨by rfl, ?_⟩) (by assumption) ?_; (case' refine_2 => (intro w hSw; go_simp; try with_reducible rfl)); (try simp only [Act.put, List.getElem_toArray, List.getElem_cons_zero, List.getElem_cons_succ, List.setIfInBounds_toArray, List.set_cons_zero, List.set_cons_succ]))
  (refine wpAnyH_take (i := 3) (v := ?_) rfl (by kernel_rfl) (by kernel_rfl) (by kernel_rfl) (fun _ _ _ h => h) (Or.inl ⟨by rfl, ?_⟩) (by assumption) ?_; (case' refine_2 => (intro w hSw; go_simp; try with_reducible rfl)); (try simp only [Act.put, List.getElem_toArray, List.getElem_cons_zero, List.getElem_cons_succ, List.setIfInBounds_toArray, List.set_cons_zero, List.set_cons_succ]))
  (refine wpAnyH_ready (rs := [1]) (by kernel_rfl) (by simp) (AllReadyH.cons rfl (fun K hK => ?_) AllReadyH.nil); go_simp)
  refine (int_c seq _).mono ?_
  rintro e w3 ⟨v, rfl, ho, hb⟩
  have hb' := below_drew_of hb
  have HG3 := Aside0.mk (blk_below HG.out hb')
  have HH3 := Aside0.mk (blk_below HH.out hb')
  have HZ3 := Aside0.mk (blk_below HZ.out hb')
  have HB3 := Aside0.mk (below_step HB.out hb')
  clear hb hb'
  obtain ⟨An, cn, rfl, hl_, hr_⟩ := Ob.reads ho; have HRn := Aside0.mk hr_; have HLn := Aside0.mk hl_; clear ho hl_ hr_
  (refine Shut.out hK _ _ trivial (fun hHeld => ?_); clear hK K; (try simp only [Act.put, List.getElem_toArray, List.getElem_cons_zero, List.getElem_cons_succ, List.setIfInBounds_toArray, List.set_cons_zero, List.set_cons_succ]))
  (refine wpAnyH_ready (rs := [4]) (by kernel_rfl) (by simp) (AllReadyH.cons rfl (fun K hK => ?_) AllReadyH.nil); go_simp)
  have HRR := Aside0.mk (show Rr (w3.alloc (.cells #[.slice An (intB seq).length cn, .slice (some ⟨g0, 0, none⟩) 32 32, .slice (some ⟨g0 + 1, 0, none⟩) 32 32] 25)) (some ⟨w3.heap.size, 0, none⟩) [intB seq, p, q] from lit_rr (blk_new w3 _) _ (by simp) (fun j l hj => by
    match j, hj with
    | 0, hj => cases hj; exact ⟨An, cn, rfl, HLn.out, Kd.C_alloc HRn.out _⟩
    | 1, hj => cases hj; exact ⟨some ⟨g0, 0, none⟩, 32, by rw [HLP.out.1]; rfl, Nat.le_of_eq HLP.out.1, rb_blk (by have h := blk_alloc HG3.out (.cells #[.slice An (intB seq).length cn, .slice (some ⟨g0, 0, none⟩) 32 32, .slice (some ⟨g0 + 1, 0, none⟩) 32 32] 25); rw [← HP.out] at h; exact h) (by rw [HLP.out.1]; decide)⟩
    | 2, hj => cases hj; exact ⟨some ⟨g0 + 1, 0, none⟩, 32, by rw [HLP.out.2]; rfl, Nat.le_of_eq HLP.out.2, rb_blk (by have h := blk_alloc HH3.out (.cells #[.slice An (intB seq).length cn, .slice (some ⟨g0, 0, none⟩) 32 32, .slice (some ⟨g0 + 1, 0, none⟩) 32 32] 25); rw [← HC.out] at h; exact h) (by rw [HLP.out.2]; decide)⟩))
  have HZ4 := Aside0.mk (blk_alloc HZ3.out (.cells #[.slice An (intB seq).length cn, .slice (some ⟨g0, 0, none⟩) 32 32, .slice (some ⟨g0 + 1, 0, none⟩) 32 32] 25))
  have HB4 := Aside0.mk (below_alloc HB3.out (.cells #[.slice An (intB seq).length cn, .slice (some ⟨g0, 0, none⟩) 32 32, .slice (some ⟨g0 + 1, 0, none⟩) 32 32] 25))
  (refine Shut.out hK _ _ trivial (fun hHeld => ?_); clear hK K; (try simp only [Act.put, List.getElem_toArray, List.getElem_cons_zero, List.getElem_cons_succ, List.setIfInBounds_toArray, List.set_cons_zero, List.set_cons_succ]))
  (refine wpAnyH_ready (rs := [5]) (by kernel_rfl) (by simp) (AllReadyH.cons rfl (fun K hK => ?_) AllReadyH.nil); go_simp)
  refine (csum_c 2 (by decide) (some ⟨w3.heap.size, 0, none⟩) 3 [intB seq, p, q] _ HRR.out (by simp) (by
    intro x hx y hy
    rcases List.mem_cons.1 hx with rfl | hx
    · exact numB_u8 (u64_range seq).2 y hy
    · rcases List.mem_cons.1 hx with rfl | hx
      · exact HU.out.1 y hy
      · rw [List.mem_singleton.1 hx] at hy
        exact HU.out.2 y hy) (by
    have h2 := numB_len (u64_range seq).2
    have h3 := HLP.out
    simp only [List.flatten_cons, List.flatten_nil, List.append_nil, List.length_append, intB]
    omega) (by simp)).mono ?_
  rintro e w6 ⟨rfl, hb6⟩
  obtain ⟨D, hD⟩ : ∃ D, (nums .u8 (shaB (linkB seq p q))).toArray = D := ⟨_, rfl⟩
  have HD := Aside0.mk hD
  have hds : D.size = 32 := by rw [← hD]; simp [nums, shaB_len]
  have HIF := Aside0.mk (show (Try.prog.info? 23).map (·.size) = some D.size by rw [hds]; exact info_32)
  have HSZ := Aside0.mk (show Z32.size = D.size by rw [hds]; simp [Z32, nums])
  have HONE := Aside0.mk (show D.all (·.oneCell') = true by rw [← hD]; exact nums_one _ _)
  rw [show sumV (shaB (2 :: [intB seq, p, q].flatten)) = .agg D by rw [← HD.out, linkB]; simp]
  have HZ6 := Aside0.mk (blk_below HZ4.out hb6)
  have HB6 := Aside0.mk (below_step HB4.out hb6)
  clear hb6 hD hds
  (refine Shut.out hK _ _ trivial (fun hHeld => ?_); clear hK K; (try simp only [Act.put, List.getElem_toArray, List.getElem_cons_zero, List.getElem_cons_succ, List.setIfInBounds_toArray, List.set_cons_zero, List.set_cons_succ]))
  refine wpAnyH_ready (rs := [6]) (by kernel_rfl) (by simp) (AllReadyH.cons rfl (fun K hK => ?_) AllReadyH.nil)
  rw [if_pos (by rfl)]
  refine wp_store_row 23 (.tmp 6) (.tmp 12) rfl (g0 + 1 + 1) D rfl rfl 23 Z32 HZ6.out HIF.out HSZ.out HONE.out ?_
  (refine Shut.out hK _ _ trivial (fun hHeld => ?_); clear hK K; (try simp only [Act.put, List.getElem_toArray, List.getElem_cons_zero, List.getElem_cons_succ, List.setIfInBounds_toArray, List.set_cons_zero, List.set_cons_succ]))
  refine wpAnyH_done (by kernel_rfl) ?_ _
  go_wp2_with (fail)
  have HSR := setRow_heap w6 (g0 + 1 + 1) Z32 D _ _ HZ6.out
  refine bodyPost_ret (v := .agg D) (results_cell_row rfl _ _ (g0 + 1 + 1) 23 D (0, 0) _ rfl HSR Try.underlying23 rfl HIF.out) rfl ⟨by rw [← HD.out], below_setRow HB6.out (by have := HG0.out; omega) D⟩
end Go.Proofs.Ytfpkgdenohcglaa.Com
/- The document's text of a link, and its sum. -/
namespace Go.Proofs.Ytfpkgdenohcglaa.Com
set_option linter.unusedVariables false
set_option linter.unusedSimpArgs false
open Go.RowKit Go.Proofs.Ytfpkgdenohcglaa.Base Go.Proofs.Ytfpkgdenohcglaa.TlvPlain Go.Proofs.Ytfpkgdenohcglaa.ShaPlain Go.Proofs.Ytfpkgdenohcglaa.Sha Go.Proofs.Ytfpkgdenohcglaa.Lo Go.Proofs.Ytfpkgdenohcglaa.Aid Go.Proofs.YtfpkgdenohcglaaW.PrintWords Go.Proofs.YtfpkgdenohcglaaW.PrintLast Go.Proofs.YtfpkgdenohcglaaW.PrintMore
end Go.Proofs.Ytfpkgdenohcglaa.Com
/- CommitLinks: the document's link, the law's walk. -/
namespace Go.Proofs.Ytfpkgdenohcglaa.Com
set_option linter.unusedVariables false
set_option linter.unusedSimpArgs false
open Go.RowKit Go.Proofs.Ytfpkgdenohcglaa.Base Go.Proofs.Ytfpkgdenohcglaa.TlvPlain Go.Proofs.Ytfpkgdenohcglaa.ShaPlain Go.Proofs.Ytfpkgdenohcglaa.Sha Go.Proofs.Ytfpkgdenohcglaa.Lo Go.Proofs.Ytfpkgdenohcglaa.Aid Go.Proofs.YtfpkgdenohcglaaW.PrintWords Go.Proofs.YtfpkgdenohcglaaW.PrintLast Go.Proofs.YtfpkgdenohcglaaW.PrintMore
end Go.Proofs.Ytfpkgdenohcglaa.Com
/- Arrays of bytes as values, in blocks, in rows (as in the tree's texts). -/
namespace Go.Proofs.Ytfpkgdenohcglaa.Chn
set_option linter.unusedVariables false
set_option linter.unusedSimpArgs false
open Go.RowKit Go.Proofs.Ytfpkgdenohcglaa.Base Go.Proofs.Ytfpkgdenohcglaa.TlvPlain Go.Proofs.Ytfpkgdenohcglaa.ShaPlain Go.Proofs.Ytfpkgdenohcglaa.Sha Go.Proofs.Ytfpkgdenohcglaa.Com Go.Proofs.Ytfpkgdenohcglaa.Aid Go.Proofs.YtfpkgdenohcglaaW.PrintWords Go.Proofs.YtfpkgdenohcglaaW.PrintLast Go.Proofs.YtfpkgdenohcglaaW.PrintMore
abbrev Sm := List Int
def Z : Sm := List.replicate 32 0
def U8' (x : Sm) : Prop := ∀ y ∈ x, 0 ≤ y ∧ y ≤ 255
theorem Z_len : Z.length = 32 := rfl
theorem Z_u8 : U8' Z := fun y hy => by have := List.eq_of_mem_replicate hy; omega
/-- The cells of a sum. -/
structure SumF (D : Array Value) (d : List Int) : Prop where
  eq : (nums .u8 d).toArray = D
  len : d.length = 32
  info : (Try.prog.info? 23).map (·.size) = some D.size
  zs : Z32.size = D.size
  one : D.all (·.oneCell') = true
theorem SumF.v {D : Array Value} {d : List Int} (h : SumF D d) : sumV d = .agg D := by rw [← h.eq]
/-- A sum's block, read as bytes. -/
theorem SumF.rb {D : Array Value} {d : List Int} (h : SumF D d) {w : World} {g : Nat} (hb : w.heap[g]? = some (.cells D 23 (0, 0))) : Rb w (some ⟨g, 0, none⟩) d :=
  rb_blk (by rw [h.eq]; exact hb) (by rw [h.len]; decide)
abbrev Ret (w : World) (d : List Int) : Ending → World → Prop := fun e w' => e = .returned (sumV d) ∧ Below w.heap.size w w'
abbrev KS : Kd (List Int) := Kd.arr 32 (Kd.int .u8) (by decide)
def Lu (l : List Sm) : Prop := ∀ x ∈ l, x.length = 32 ∧ U8' x
theorem Lu.take {l : List Sm} (h : Lu l) (k : Nat) : Lu (l.take k) := fun x hx => h x (List.mem_of_mem_take hx)
theorem Lu.drop {l : List Sm} (h : Lu l) (k : Nat) : Lu (l.drop k) := fun x hx => h x (List.mem_of_mem_drop hx)
def AtC (w : World) (ad : Addr) (cs : List Value) : Prop := ∀ j v, cs[j]? = some v → w.cell? (ad.add j) = some v
theorem addr_add_add (a : Addr) (i j : Nat) : (a.add i).add j = a.add (i + j) := by
  unfold Addr.add
  by_cases hi : i = 0
  · subst hi; simp
  · by_cases hj : j = 0
    · subst hj; simp
    · rw [if_neg hi, if_neg hj, if_neg (by omega), Nat.add_assoc]
section
variable {P : Program}
theorem run_loadVar_at (w : World) (ad : Addr) (ty : TypeId) (cs : List Value) (d : TypeDesc) (hc : AtC w ad cs)
    (hu : P.underlying ty = some d) (hd : d.isRow = true) (hi : (P.info? ty).map (·.size) = some cs.length) :
    (loadVar ty ad).run P w = .ok (.agg cs.toArray) w := by
  have hl : (loadCells ad cs.length).run P w = .ok cs.toArray w := run_loadCells_list (P := P) w ad cs hc
  cases hq : P.info? ty with
  | none => simp [hq] at hi
  | some i =>
    have hs : i.size = cs.length := by simpa [hq] using hi
    have hagg : (isAgg ty).run P w = .ok true w := by
      unfold isAgg
      rw [Sem.run_bind, run_underlying hu w]
      cases d <;> simp_all
    simp [loadVar, Sem.run_bind, hagg, sizeOf, typeInfo, hq, hs, hl]
theorem wpList_load_at {ops : Array Oper} {rest : List Oper} {op : Oper} {a : Act} {w : World} {Q : Exit → Act → World → Prop} (hgd : op.guard = none) (ty : TypeId) (x : Operand) (ho : op.op = .load ty x)
    (ad : Addr) (hx : a.eval x = .pointer (some ad)) (cs : List Value) (d : TypeDesc) (hc : AtC w ad cs)
    (hu : P.underlying ty = some d) (hd : d.isRow = true) (hi : (P.info? ty).map (·.size) = some cs.length)
    (h : wpList P ops Q rest (a.put op.dst (.agg cs.toArray)) w) : wpList P ops Q (op :: rest) a w :=
  wpList_plain hgd fun _ hK => by
    unfold Oper.wp execOp
    simp only [ho, hx, Instr.loadAt, Instr.sureAddr, Sem.run_bind, Sem.run_pure, Result.andThen_ok, run_loadVar_at w ad ty cs d hc hu hd hi]
    exact hK _ _ h
theorem yieldsIf_load_at {ops : Array Oper} {S : World → Prop} {op : Oper} {a : Act} (hw : Region.wanted op (yielded ops a.tmps) = true) (ty : TypeId) (x : Operand) (ho : op.op = .load ty x)
    (ad : Addr) (hx : a.eval x = .pointer (some ad)) (cs : List Value) (d : TypeDesc) (hS : ∀ w, S w → AtC w ad cs)
    (hu : P.underlying ty = some d) (hd : d.isRow = true) (hi : (P.info? ty).map (·.size) = some cs.length) : YieldsIf P ops S op (.agg cs.toArray) a :=
  .inl ⟨hw, fun w hw' => by
    unfold execOp
    simp only [ho, hx, Instr.loadAt, Instr.sureAddr, Sem.run_bind, Sem.run_pure, Result.andThen_ok, run_loadVar_at w ad ty cs d (hS w hw') hu hd hi]⟩
end
theorem AtC.below {w w' : World} {ad : Addr} {cs : List Value} (h : AtC w ad cs) (hb : Below w.heap.size w w') : AtC w' ad cs := fun j v hj => (hb.cell (World.block_lt_of_cell? _ _ (h j v hj))).trans (h j v hj)
/-- The cells of a sum, as a list. -/
structure SumC (cs : List Value) (d : Sm) : Prop where
  eq : nums .u8 d = cs
  len : d.length = 32
theorem sumC (d : Sm) (h : d.length = 32) : ∃ cs, SumC cs d := ⟨_, rfl, h⟩
theorem SumC.v {cs : List Value} {d : Sm} (h : SumC cs d) : sumV d = .agg cs.toArray := by rw [← h.eq]
theorem SumC.lenC {cs : List Value} {d : Sm} (h : SumC cs d) : cs.length = 32 := by rw [← h.eq]; simp [nums, h.len]
/-- A new block's cells. -/
theorem atC_blk {W : World} {g T : Nat} {cs : List Value} {fr : Nat × Nat} (h : W.heap[g]? = some (.cells cs.toArray T fr)) : AtC W ⟨g, 0, none⟩ cs := fun j v hj => by
  rw [add_plain]
  unfold World.cell?
  dsimp only
  rw [h]
  simpa using hj
theorem AtC.left {W : World} {ad : Addr} {a b : List Value} (h : AtC W ad (a ++ b)) : AtC W ad a := fun j v hj => h j v (by rw [List.getElem?_append_left (List.getElem?_eq_some_iff.1 hj).1]; exact hj)
theorem AtC.right {W : World} {ad : Addr} {a b : List Value} (h : AtC W ad (a ++ b)) : AtC W (ad.add a.length) b := fun j v hj => by
  rw [addr_add_add]
  exact h _ v (by rw [List.getElem?_append_right (by omega), Nat.add_sub_cancel_left]; exact hj)
theorem SumC.blk {cs : List Value} {d : Sm} (h : SumC cs d) : (Try.prog.info? 23).map (·.size) = some cs.length := by rw [h.lenC]; exact info_32
theorem SumC.blkA {cs : List Value} {d : Sm} (h : SumC cs d) : (Try.prog.info? 23).map (·.size) = some cs.toArray.size := by simp [h.lenC, info_32]
theorem SumC.oneA {cs : List Value} {d : Sm} (h : SumC cs d) : cs.toArray.all (·.oneCell') = true := by rw [← h.eq]; exact nums_one _ _
theorem SumC.zsA {cs : List Value} {d : Sm} (h : SumC cs d) : Z32.size = cs.toArray.size := by simp [Z32, nums, h.lenC]
theorem cell_below {W W' : World} {ad : Addr} {v : Value} (hb : Below W.heap.size W W') (h : W.cell? ad = some v) : W'.cell? ad = some v := (hb.cell (World.block_lt_of_cell? _ _ h)).trans h
abbrev RetB (w : World) (b : Bool) : Ending → World → Prop := fun e w' => e = .returned (.bool b) ∧ Below w.heap.size w w'
section
variable {P : Program} {o : Oper} {a : Act} {Q : Exit → Act → World → Prop} {Kc : Act → World → Prop} {α : Type} {W : World}
end
end Go.Proofs.Ytfpkgdenohcglaa.Chn
/- Chains of entries, plainly; an entry's cells. -/
namespace Go.Proofs.Ytfpkgdenohcglaa.Chn
set_option linter.unusedVariables false
set_option linter.unusedSimpArgs false
open Go.RowKit Go.Proofs.Ytfpkgdenohcglaa.Base Go.Proofs.Ytfpkgdenohcglaa.TlvPlain Go.Proofs.Ytfpkgdenohcglaa.ShaPlain Go.Proofs.Ytfpkgdenohcglaa.Sha Go.Proofs.Ytfpkgdenohcglaa.Com Go.Proofs.Ytfpkgdenohcglaa.Aid Go.Proofs.YtfpkgdenohcglaaW.PrintWords Go.Proofs.YtfpkgdenohcglaaW.PrintLast Go.Proofs.YtfpkgdenohcglaaW.PrintMore
attribute [local irreducible] shaB
/-- seq, prev, com, salt, payload, redacted -/
abbrev Ent := Int × List Int × List Int × Int × List Int × Bool
abbrev seqE (x : Ent) : Int := x.1
abbrev prevE (x : Ent) : Sm := x.2.1
abbrev comE (x : Ent) : Sm := x.2.2.1
abbrev saltE (x : Ent) : Int := x.2.2.2.1
abbrev payE (x : Ent) : List Int := x.2.2.2.2.1
abbrev redE (x : Ent) : Bool := x.2.2.2.2.2
@[irreducible] def linkH (s : Int) (p c : Sm) : Sm := shaB (linkB s p c)
@[irreducible] def comH (s : Int) (b : List Int) : Sm := shaB (comB s b)
theorem linkH_eq (s : Int) (p c : Sm) : linkH s p c = shaB (linkB s p c) := by unfold linkH; rfl
theorem comH_eq (s : Int) (b : List Int) : comH s b = shaB (comB s b) := by unfold comH; rfl
theorem linkH_len (s : Int) (p c : Sm) : (linkH s p c).length = 32 := by rw [linkH_eq]; exact shaB_len _
theorem linkH_u8 (s : Int) (p c : Sm) : U8' (linkH s p c) := by rw [linkH_eq]; exact shaB_u8 _
theorem comH_len (s : Int) (b : List Int) : (comH s b).length = 32 := by rw [comH_eq]; exact shaB_len _
theorem comH_u8 (s : Int) (b : List Int) : U8' (comH s b) := by rw [comH_eq]; exact shaB_u8 _
def linkT (x : Ent) : Sm := linkH (seqE x) (prevE x) (comE x)
theorem linkT_len (x : Ent) : (linkT x).length = 32 := linkH_len _ _ _
theorem linkT_u8 (x : Ent) : U8' (linkT x) := linkH_u8 _ _ _
def headT (l : List Ent) : Sm := match l.getLast? with | none => Z | some x => linkT x
theorem headT_len (l : List Ent) : (headT l).length = 32 := by
  unfold headT
  split
  · exact Z_len
  · exact linkT_len _
theorem headT_u8 (l : List Ent) : U8' (headT l) := by
  unfold headT
  split
  · exact Z_u8
  · exact linkT_u8 _
theorem headT_nil : headT [] = Z := rfl
theorem headT_snoc (l : List Ent) (x : Ent) : headT (l ++ [x]) = linkT x := by
  unfold headT
  rw [List.getLast?_append]
  rfl
theorem headT_take (l : List Ent) (i : Nat) (h : i < l.length) : headT (l.take (i + 1)) = linkT l[i] := by rw [take_snoc l i h, headT_snoc]
def addT (l : List Ent) (salt : Int) (pay : List Int) : List Ent := l ++ [((l.length : Int), headT l, comH salt pay, salt, pay, false)]
def rightT (x : Ent) : Bool := if redE x then decide (saltE x = 0) && decide (payE x = []) else decide (comE x = comH (saltE x) (payE x))
/-- Whether entry i is right, the head behind the ones ahead of it being d. -/
def okT (i : Nat) (d : Sm) (x : Ent) : Bool := decide (seqE x = (i : Int)) && (decide (prevE x = d) && rightT x)
/-- The first entry from i on that is not right, d being the head so far; else how many there are. -/
def badT : List Ent → Nat → Sm → Option Nat
  | [], _, _ => none
  | x :: l, i, d => if okT i d x then badT l (i + 1) (linkT x) else some i
def verT (l : List Ent) (head : Sm) (n : Int) : Int × Bool := match badT l 0 Z with
  | some i => ((i : Int), false)
  | none => ((l.length : Int), decide ((l.length : Int) = n) && decide (headT l = head))
def cutE (x : Ent) : Ent := (seqE x, prevE x, comE x, 0, [], true)
def redT (l : List Ent) (i : Int) : List Ent × Int :=
  if 0 ≤ i ∧ i < l.length then match l[i.toNat]? with
    | none => ([], 5)
    | some x => if redE x then ([], 13) else (l.set i.toNat (cutE x), 0)
  else ([], 5)
/-- What may stand in an entry. -/
structure Eu (x : Ent) : Prop where
  pl : (prevE x).length = 32
  pu : U8' (prevE x)
  cl : (comE x).length = 32
  cu : U8' (comE x)
  s0 : 0 ≤ saltE x
  s1 : saltE x ≤ 18446744073709551615
  u : U8 (payE x)
def Lu' (l : List Ent) : Prop := ∀ x ∈ l, Eu x
abbrev DEnt : Kd Ent := Kd.pair (Kd.int .i64) (Kd.pair KS (Kd.pair KS (Kd.pair (Kd.int .u64) (Kd.pair (Kd.slice 5 (Kd.int .u8)) Kd.bool))))
/-- An entry's cells. -/
def cellsE (s : Int) (P C : List Value) (sl : Int) (A : Option Addr) (n c : Nat) (r : Bool) : List Value := Value.int .i64 s :: (P ++ (C ++ [Value.int .u64 sl, .slice A n c, .bool r]))
structure EntC (w : World) (x : Ent) (P C : List Value) (A : Option Addr) (c : Nat) : Prop where
  fp : SumC P (prevE x)
  fc : SumC C (comE x)
  hc : (payE x).length ≤ c
  r : Rb w A (payE x)
abbrev cE (x : Ent) (P C : List Value) (A : Option Addr) (c : Nat) : List Value := cellsE (seqE x) P C (saltE x) A (payE x).length c (redE x)
theorem ent_open {w : World} {x : Ent} {cs : List Value} (hK : DEnt.K w x cs) : ∃ P C A c, EntC w x P C A c ∧ cs = cE x P C A c := by
  obtain ⟨_, _, e0, h0, P, _, e1, h1, C, _, e2, h2, _, _, e3, h3, _, _, e4, ⟨A, c, h4, hc, hr⟩, h5⟩ := hK
  have g1 := Open.nums_arr h1
  have g2 := Open.nums_arr h2
  refine ⟨P, C, A, c, ⟨⟨g1.symm, h1.1⟩, ⟨g2.symm, h2.1⟩, hc, hr⟩, ?_⟩
  subst e0 e1 e2 e3 e4
  rw [show _ = [Value.int .i64 x.1] from h0, show _ = [Value.int .u64 x.2.2.2.1] from h3, h4, show _ = [Value.bool x.2.2.2.2.2] from h5]
  rfl
theorem EntC.len {w : World} {x : Ent} {P C : List Value} {A : Option Addr} {c : Nat} (h : EntC w x P C A c) : (cE x P C A c).length = 68 := by
  show (cellsE _ _ _ _ _ _ _ _).length = 68
  unfold cellsE
  simp [h.fp.lenC, h.fc.lenC]
theorem EntC.one {w : World} {x : Ent} {P C : List Value} {A : Option Addr} {c : Nat} (h : EntC w x P C A c) : (cE x P C A c).toArray.all (·.oneCell') = true := by
  have e1 : ∀ v ∈ P, v.oneCell' = true := by rw [← h.fp.eq]; intro v hv; obtain ⟨y, _, rfl⟩ := List.mem_map.1 hv; rfl
  have e2 : ∀ v ∈ C, v.oneCell' = true := by rw [← h.fc.eq]; intro v hv; obtain ⟨y, _, rfl⟩ := List.mem_map.1 hv; rfl
  simp only [List.all_toArray, List.all_eq_true]
  intro v hv
  have hv : v ∈ cellsE _ _ _ _ _ _ _ _ := hv
  unfold cellsE at hv
  simp only [List.mem_cons, List.mem_append, List.not_mem_nil, or_false] at hv
  rcases hv with rfl | hv | hv | rfl | rfl | rfl
  · rfl
  · exact e1 v hv
  · exact e2 v hv
  · rfl
  · rfl
  · rfl
theorem ent_mk {w : World} {x : Ent} {P C : List Value} {A : Option Addr} {c : Nat} (h : EntC w x P C A c) : DEnt.K w x (cE x P C A c) := by
  have hp : KS.K w (prevE x) P := by rw [← h.fp.eq]; exact KS.K_of_M (Kd.arr_of_cells (base := 0) (ok := fun _ => True) h.fp.len)
  have hq : KS.K w (comE x) C := by rw [← h.fc.eq]; exact KS.K_of_M (Kd.arr_of_cells (base := 0) (ok := fun _ => True) h.fc.len)
  exact ⟨[Value.int .i64 x.1], _, rfl, rfl, P, _, rfl, hp, C, _, rfl, hq, [Value.int .u64 x.2.2.2.1], _, rfl, rfl, [Value.slice A x.2.2.2.2.1.length c], [Value.bool x.2.2.2.2.2], rfl, ⟨A, c, rfl, h.hc, h.r⟩, rfl⟩
theorem EntC.below {w w' : World} {x : Ent} {P C : List Value} {A : Option Addr} {c : Nat} (h : EntC w x P C A c) (hb : Below w.heap.size w w') : EntC w' x P C A c := ⟨h.fp, h.fc, h.hc, Kd.C_below h.r hb⟩
/-- Entries that are read. -/
abbrev Re (w : World) (A : Option Addr) (l : List Ent) : Prop := Kd.C DEnt w A l.length l
theorem re_at {w : World} {A : Option Addr} {l : List Ent} (h : Re w A l) (i : Nat) (hi : i < l.length) : ∃ ad P C B c, A = some ad ∧ AtC w (ad.add (i * 68)) (cE l[i] P C B c) ∧ EntC w l[i] P C B c := by
  obtain ⟨ad, hA, hc⟩ := h.2.2 (by omega)
  obtain ⟨cs, hl, hK, hat⟩ := hc i l[i] (List.getElem?_eq_getElem hi)
  obtain ⟨P, C, B, c, he, rfl⟩ := ent_open hK
  refine ⟨ad, P, C, B, c, hA, fun j v hj => ?_, he⟩
  rw [addr_add_add]
  exact hat j v hj
theorem info_ent : (Try.prog.info? 27).map (·.size) = some 68 := by kernel_rfl
theorem EntC.info {w : World} {x : Ent} {P C : List Value} {A : Option Addr} {c : Nat} (h : EntC w x P C A c) : (Try.prog.info? 27).map (·.size) = some (cE x P C A c).length := by rw [h.len]; exact info_ent
/-- An entry in a block: its fields. -/
structure EntAt (W : World) (g : Nat) (x : Ent) (P C : List Value) (A : Option Addr) (c : Nat) : Prop where
  s : W.cell? ⟨g, 0, none⟩ = some (.int .i64 (seqE x))
  fp : AtC W ⟨g, 1, none⟩ P
  fc : AtC W ⟨g, 33, none⟩ C
  sl : W.cell? ⟨g, 65, none⟩ = some (.int .u64 (saltE x))
  py : W.cell? ⟨g, 66, none⟩ = some (.slice A (payE x).length c)
  r : W.cell? ⟨g, 67, none⟩ = some (.bool (redE x))
theorem EntAt.below {W W' : World} {g : Nat} {x : Ent} {P C : List Value} {A : Option Addr} {c : Nat} (h : EntAt W g x P C A c) (hb : Below W.heap.size W W') : EntAt W' g x P C A c :=
  ⟨cell_below hb h.s, h.fp.below hb, h.fc.below hb, cell_below hb h.sl, cell_below hb h.py, cell_below hb h.r⟩
theorem entAt_blk {W : World} {g T : Nat} {fr : Nat × Nat} {x : Ent} {P C : List Value} {A : Option Addr} {c : Nat} (hP : P.length = 32) (hC : C.length = 32) (h : W.heap[g]? = some (.cells (cE x P C A c).toArray T fr)) : EntAt W g x P C A c := by
  have h0 := atC_blk h
  have h1 : AtC W ⟨g, 1, none⟩ (P ++ (C ++ [Value.int .u64 (saltE x), .slice A (payE x).length c, .bool (redE x)])) := fun j v hj => by
    have h2 := h0 (j + 1) v (by show (cellsE _ _ _ _ _ _ _ _)[j + 1]? = some v; unfold cellsE; rw [List.getElem?_cons_succ]; exact hj)
    rw [add_plain] at h2
    have e : (⟨g, 1, none⟩ : Addr).add j = ⟨g, j + 1, none⟩ := by
      unfold Addr.add
      split
      · next h => subst h; rfl
      · show (⟨g, 1 + j, none⟩ : Addr) = _
        rw [Nat.add_comm]
    rw [e]
    exact h2
  have h2 := h1.right
  rw [hP] at h2
  have h3 := h2.right
  rw [hC] at h3
  exact ⟨h0 0 _ rfl, h1.left, h2.left, h3 0 _ rfl, h3 1 _ rfl, h3 2 _ rfl⟩
end Go.Proofs.Ytfpkgdenohcglaa.Chn
/- What was put is read, what was read is put: a reader in plain words. -/
namespace Go.Proofs.Ytfpkgdenohcglaa.RdPlain
open Go.RowKit Go.Proofs.Ytfpkgdenohcglaa.Base Go.Proofs.Ytfpkgdenohcglaa.TlvPlain Go.Proofs.Ytfpkgdenohcglaa.Lo Go.Proofs.YtfpkgdenohcglaaW.PrintWords
theorem count_none (m : Int) : countO none m = (0, none) := by unfold countO; split <;> rfl
theorem take_none (n : Int) : takeO none n = ([], none) := rfl
theorem text_none (m : Int) : textO none m = ([], none) := by unfold textO; rw [count_none]; rfl
theorem num_none : numO none = (0, none) := rfl
theorem count_numB {n most : Int} (h0 : 0 ≤ n) (h1 : n ≤ most) (hm : most ≤ 18446744073709551615) (r : List Int) : countO (some (numB n ++ r)) most = (n, some r) := by
  unfold countO
  rw [numO_numB n h0 (by omega) r, if_neg (by simp; omega)]
theorem take_app (l r : List Int) : takeO (some (l ++ r)) (l.length : Int) = (l, some r) := by
  simp only [takeO]
  rw [if_pos ⟨by omega, by simp; omega⟩]
  simp
theorem text_textB {l : List Int} {most : Int} (h : (l.length : Int) ≤ most) (hm : most ≤ 18446744073709551615) (r : List Int) : textO (some (textB l ++ r)) most = (l, some r) := by
  unfold textO textB
  rw [List.append_assoc, count_numB (by omega) h hm]
  exact take_app l r
theorem U8.right {a b : List Int} (h : U8 (a ++ b)) : U8 b := fun x hx => h x (List.mem_append_right _ hx)
theorem U8.left {a b : List Int} (h : U8 (a ++ b)) : U8 a := fun x hx => h x (List.mem_append_left _ hx)
end Go.Proofs.Ytfpkgdenohcglaa.RdPlain
