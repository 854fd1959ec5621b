/- Own and printed texts, laid together. -/
import Derived.Test.YtbebkogkeepfoaaProg
import Derived.Below
import Derived.Deep.Draws
import Derived.Deep.AppendLies
import Derived.Maps.AppendAt
import Derived.OwnWalk
import Derived.Laws.BytesArg
import Derived.Laws.MakeOwn
import Derived.Laws.OwnMore
import Derived.Deep.OwnRows
import Derived.Tactics
import Derived.Lib.ConvBytes
import Derived.Laws.Slices
import Derived.WalkKit
import Derived.KernelRfl
import Derived.RowKit3
import Derived.Deep.LoopGhost
import Derived.Deep.QuietTactic
import Derived.BigQuiet
import Derived.WideLaws
import Derived.Deep.DeepCutAuto
import Derived.Deep.CutBlock
import Derived.Deep.RegionHeld3
import Derived.Laws.Rows
import Derived.Lib.AppendStr
import Derived.ArgAppend
import Derived.Laws.IdiomCopy
import Derived.OrdersHeld
import Derived.Laws.BitsLemmas
import Derived.RowKit
import Derived.Test.YtbebkogkeepfoaaTrYA
import Derived.Lib.SlBytesConst
import Derived.StillTailTactics
import Derived.Laws.CopyOwn
import Derived.Great.BuildSlice
import Derived.Deep.WholeRow
import Derived.Deep.DeepMust
import Derived.Lib.BitFns
import Derived.Test.YtbebkogkeepfoaaTrYB
import Derived.IntWalk
/- What every text of this claim stands on: the imports, and a few laws on kinds. -/
namespace Go.Proofs.Ytbebkogkeepfoaa.Base
open Go.RowKit Go.Proofs.YtbebkogkeepfoaaW.PrintWords Go.Proofs.YtbebkogkeepfoaaW.PrintLast Go.Proofs.YtbebkogkeepfoaaW.PrintMore

/-- Bytes that are read stay so where another block alone is written. -/
theorem reads_keep {w w1 : World} {g : Nat} {k : IntKind} {A : Option Addr} {xs : List Int} (h : Kd.C (Kd.int k) w A xs.length xs) (hk : KeepBut w w1 g none) (hne : ∀ a, A = some a → 0 < xs.length → a.block ≠ g) : Kd.C (Kd.int k) w1 A xs.length xs := by
  have h' := Kd.reads_of_C (d := (0 : Int)) h
  refine Kd.C_of_reads (d := (0 : Int)) ⟨h'.1, h'.2.1, fun h0 => ?_⟩
  obtain ⟨ad, e, hc⟩ := h'.2.2 h0
  refine ⟨ad, e, fun j hj => keep_cell hk (hc j hj) ?_⟩
  rw [show (ad.add j).block = ad.block from by unfold Addr.add; split <;> rfl]
  exact hne ad e h0
theorem keep_set (w : World) (g j : Nat) (v : Value) : KeepBut w (w.setCell ⟨g, j, none⟩ v) g none := (KeepBut.refl w g none).set_ j v
/-- Bytes that are read. -/
abbrev Rb (w : World) (A : Option Addr) (xs : List Int) : Prop := Kd.C (Kd.int .u8) w A xs.length xs
/-- Bytes of the call's own. -/
abbrev Ob (w : World) (base : Nat) (v : Value) (xs : List Int) : Prop := Kd.R (Kd.int .u8) 5 w base (fun _ => True) v xs
theorem info_u8 : (Try.prog.info? 5).map (fun i => (i.zero, i.size, i.bytes)) = some (some (.int .u8 0), 1, 1) := by kernel_rfl
/-- A row of bytes of the call's own, read. -/
theorem Ob.reads {w : World} {base : Nat} {v : Value} {xs : List Int} (h : Ob w base v xs) : ∃ A c, v = .slice A xs.length c ∧ xs.length ≤ c ∧ Rb w A xs := Kd.R_reads h
/-- Bytes that are written out. -/
theorem lit_bytes {P : Program} {ops : Array Oper} {rest : List Oper} {o : Oper} {a : Act} {Q : Exit → Act → World → Prop} {W : World} {N : Tmp} (hgd : o.guard = none) (hd : o.dst = some N) (xs : List Int) (inner : List Value) (hi : inner = nums .u8 xs)
    (hrun : (execOp a.eval o).run P W = .ok (.value (.slice (some ⟨W.heap.size, 0, none⟩) xs.length xs.length)) (W.alloc (.cells inner.toArray 5))) (hm : xs.length ≤ 9223372036854775807)
    (h : ∀ v1 w1, Ob w1 W.heap.size v1 xs → Below W.heap.size W w1 → wpList P ops Q rest (a.put o.dst v1) w1) : wpList P ops Q (o :: rest) a W := by
  subst hi
  exact Kd.R_lit (Kd.int .u8) W.heap.size 5 hgd hd (okp := fun _ => True) hrun (Kd.reps_scalar (enc := Value.int .u8) xs) (fun _ hk => hk) trivial (Below.refl _ _) (Nat.le_refl _) hm (fun v1 w1 h1 h2 _ _ => h v1 w1 h1 h2)
/-- The bytes of a text that is written out, read. -/
theorem const_reads (w : World) (xs : List Int) (C : Array Value) (fr : Nat × Nat) (hC : C = (nums .u8 xs).toArray) (hm : xs.length ≤ 9223372036854775807) : Rb (w.alloc (.cells C 5 fr)) (some ⟨w.heap.size, 0, none⟩) xs := by
  subst hC
  refine Kd.C_of_reads (d := (0 : Int)) ⟨rfl, hm, fun _ => ⟨_, rfl, fun j hj => ?_⟩⟩
  have e : (⟨w.heap.size, 0, none⟩ : Addr).add j = ⟨w.heap.size, j, none⟩ := add_plain _ _
  rw [e]
  have hb : (w.alloc (.cells (nums .u8 xs).toArray 5 fr)).heap[w.heap.size]? = some (.cells (nums .u8 xs).toArray 5 fr) := heap_alloc_new _ _
  unfold World.cell?
  dsimp only
  rw [hb]
  simp [nums, List.getElem?_eq_getElem hj, List.getD_eq_getElem?_getD]
/-- Rows of bytes that are read. -/
abbrev Rr (w : World) (A : Option Addr) (xs : List (List Int)) : Prop := Kd.C (Kd.slice 5 (Kd.int .u8)) w A xs.length xs
/-- A slice of rows that is written out. -/
theorem lit_rows {P : Program} {ops : Array Oper} {rest : List Oper} {o : Oper} {a : Act} {Q : Exit → Act → World → Prop} {W : World} {N : Tmp} {e : TypeId} (hgd : o.guard = none) (_hd : o.dst = some N) (xs : List (List Int)) (inner : List Value)
    (hi : inner.length = xs.length ∧ ∀ (j : Nat) (l : List Int), xs[j]? = some l → ∃ A c, inner[j]? = some (Value.slice A l.length c) ∧ l.length ≤ c ∧ Rb W A l)
    (hrun : (execOp a.eval o).run P W = .ok (.value (.slice (some ⟨W.heap.size, 0, none⟩) xs.length xs.length)) (W.alloc (.cells inner.toArray e))) (hm : xs.length ≤ 9223372036854775807)
    (h : ∀ A1 w1, Rr w1 A1 xs → Below W.heap.size W w1 → wpList P ops Q rest (a.put o.dst (.slice A1 xs.length xs.length)) w1) : wpList P ops Q (o :: rest) a W := by
  refine Kd.event_run hgd hrun (h _ _ ⟨rfl, hm, fun _ => ⟨_, rfl, fun j l hj => ?_⟩⟩ ((Below.refl _ W).alloc (Nat.le_refl _) _))
  obtain ⟨A, c, h1, h2, h3⟩ := hi.2 j l hj
  refine ⟨[.slice A l.length c], rfl, ⟨A, c, rfl, h2, Kd.C_alloc h3 _⟩, fun i u hu => ?_⟩
  have hi0 : i = 0 := by
    have := (List.getElem?_eq_some_iff.1 hu).1
    simp at this
    exact this
  subst hi0
  rw [show j * (Kd.slice 5 (Kd.int .u8)).sz + 0 = j from by show j * 1 + 0 = j; omega, add_plain]
  rw [blk_cell (blk_new W (.cells inner.toArray e))]
  rw [show inner.toArray[j]? = inner[j]? from by simp, h1]
  exact hu
/-- Two rows, three rows: what 'lit_rows' asks of them. -/
theorem rows2 {W : World} {a b : List Int} {A B : Option Addr} {ca cb : Nat} (ha : Rb W A a) (hca : a.length ≤ ca) (hb : Rb W B b) (hcb : b.length ≤ cb) :
    [Value.slice A a.length ca, .slice B b.length cb].length = [a, b].length ∧ ∀ (j : Nat) (l : List Int), [a, b][j]? = some l → ∃ A' c, [Value.slice A a.length ca, .slice B b.length cb][j]? = some (Value.slice A' l.length c) ∧ l.length ≤ c ∧ Rb W A' l := by
  refine ⟨rfl, fun j l hj => ?_⟩
  match j, hj with
  | 0, hj => cases hj; exact ⟨_, _, rfl, hca, ha⟩
  | 1, hj => cases hj; exact ⟨_, _, rfl, hcb, hb⟩
/-- A take of bytes that are read. -/
theorem Rb.take {w : World} {A : Option Addr} {xs : List Int} (h : Rb w A xs) (n : Nat) (hn : n ≤ xs.length) : Rb w A (xs.take n) := by
  have h5 := Kd.C_of_reads (d := (0 : Int)) (h1 := fun _ => rfl) (ReadsInt.take_ (Kd.reads_of_C (d := (0 : Int)) h) n hn)
  show Kd.C _ w A (xs.take n).length (xs.take n)
  rw [show (xs.take n).length = n from by rw [List.length_take]; omega]
  exact h5
theorem Rb.len {w : World} {A : Option Addr} {xs : List Int} (h : Rb w A xs) : xs.length ≤ 9223372036854775807 := (Kd.reads_of_C (d := (0 : Int)) h).2.1
end Go.Proofs.Ytbebkogkeepfoaa.Base
/- SHA-256 in plain words: on lists of numbers. -/
namespace Go.Proofs.Ytbebkogkeepfoaa.ShaPlain
open Go.RowKit Go.Proofs.Ytbebkogkeepfoaa.Base Go.Proofs.YtbebkogkeepfoaaW.PrintWords

def xo (a b : Int) : Int := bits .xor .u32 a b
def an (a b : Int) : Int := bits .and .u32 a b
def rot (p q x : Int) : Int := bits .or .u32 (x * q % 4294967296) (x / p)
theorem or_comm (a b : Int) : bits .or .u32 a b = bits .or .u32 b a := by
  unfold bits
  simp only [BitVec.or_comm]
def m32 (x : Int) : Int := x % 4294967296
def word4 (a b c d : Int) : Int := bits .or .u32 (bits .or .u32 (bits .or .u32 (a * 16777216 % 4294967296) (b * 65536)) (c * 256)) d
def low (x : Int) : Int := xo (xo (rot 128 33554432 x) (rot 262144 16384 x)) (x / 8)
def high (x : Int) : Int := xo (xo (rot 131072 32768 x) (rot 524288 8192 x)) (x / 1024)
/-- The t'th word, out of the block and the words ahead of it. -/
def next (b ws : List Int) (t : Nat) : Int :=
  if t < 16 then word4 (b.getD (4 * t) 0) (b.getD (4 * t + 1) 0) (b.getD (4 * t + 2) 0) (b.getD (4 * t + 3) 0)
  else m32 (ws.getD (t - 16) 0 + low (ws.getD (t - 15) 0) + ws.getD (t - 7) 0 + high (ws.getD (t - 2) 0))
def fill (b : List Int) : Nat → List Int
  | 0 => List.replicate 64 0
  | t + 1 => (fill b t).set t (next b (fill b t) t)
def keys : List Int := [
  0x428a2f98, 0x71374491, 0xb5c0fbcf, 0xe9b5dba5, 0x3956c25b, 0x59f111f1, 0x923f82a4, 0xab1c5ed5,
  0xd807aa98, 0x12835b01, 0x243185be, 0x550c7dc3, 0x72be5d74, 0x80deb1fe, 0x9bdc06a7, 0xc19bf174,
  0xe49b69c1, 0xefbe4786, 0x0fc19dc6, 0x240ca1cc, 0x2de92c6f, 0x4a7484aa, 0x5cb0a9dc, 0x76f988da,
  0x983e5152, 0xa831c66d, 0xb00327c8, 0xbf597fc7, 0xc6e00bf3, 0xd5a79147, 0x06ca6351, 0x14292967,
  0x27b70a85, 0x2e1b2138, 0x4d2c6dfc, 0x53380d13, 0x650a7354, 0x766a0abb, 0x81c2c92e, 0x92722c85,
  0xa2bfe8a1, 0xa81a664b, 0xc24b8b70, 0xc76c51a3, 0xd192e819, 0xd6990624, 0xf40e3585, 0x106aa070,
  0x19a4c116, 0x1e376c08, 0x2748774c, 0x34b0bcb5, 0x391c0cb3, 0x4ed8aa4a, 0x5b9cca4f, 0x682e6ff3,
  0x748f82ee, 0x78a5636f, 0x84c87814, 0x8cc70208, 0x90befffa, 0xa4506ceb, 0xbef9a3f7, 0xc67178f2]
def start : List Int := [0x6a09e667, 0xbb67ae85, 0x3c6ef372, 0xa54ff53a, 0x510e527f, 0x9b05688c, 0x1f83d9ab, 0x5be0cd19]
def choice (e f g : Int) : Int := xo (an e f) (an (xo IntKind.u32.max e) g)
def most (a b c : Int) : Int := xo (xo (an a b) (an a c)) (an b c)
def sigE (e : Int) : Int := xo (xo (rot 64 67108864 e) (rot 2048 2097152 e)) (rot 33554432 128 e)
def sigA (a : Int) : Int := xo (xo (rot 4 1073741824 a) (rot 8192 524288 a)) (rot 4194304 1024 a)
def one (v : List Int) (k x : Int) : Int := m32 (v.getD 7 0 + sigE (v.getD 4 0) + choice (v.getD 4 0) (v.getD 5 0) (v.getD 6 0) + k + x)
def two (v : List Int) : Int := m32 (sigA (v.getD 0 0) + most (v.getD 0 0) (v.getD 1 0) (v.getD 2 0))
def step (v : List Int) (k x : Int) : List Int :=
  [m32 (one v k x + two v), v.getD 0 0, v.getD 1 0, v.getD 2 0, m32 (v.getD 3 0 + one v k x), v.getD 4 0, v.getD 5 0, v.getD 6 0]
def rounds (s ws : List Int) : Nat → List Int
  | 0 => s
  | t + 1 => step (rounds s ws t) (keys.getD t 0) (ws.getD t 0)
/-- The state behind a block. -/
def press (s b : List Int) : List Int := List.zipWith (fun x y => m32 (x + y)) s (rounds s (fill b 64) 64)

def U32 (l : List Int) : Prop := ∀ x ∈ l, 0 ≤ x ∧ x ≤ 4294967295
theorem U32.at {l : List Int} (h : U32 l) (i : Nat) : 0 ≤ l.getD i 0 ∧ l.getD i 0 ≤ 4294967295 := by
  rw [List.getD_eq_getElem?_getD]
  by_cases hi : i < l.length
  · rw [List.getElem?_eq_getElem hi]; exact h _ (List.getElem_mem hi)
  · rw [List.getElem?_eq_none (by omega)]; simp
theorem bits_range (op : BinOp) (a b : Int) : 0 ≤ bits op .u32 a b ∧ bits op .u32 a b ≤ 4294967295 := by
  unfold bits
  split <;> (rw [IntKind.wrap_u32]; omega)
theorem m32_range (x : Int) : 0 ≤ m32 x ∧ m32 x ≤ 4294967295 := by unfold m32; omega
theorem fill_len (b : List Int) : ∀ t, (fill b t).length = 64
  | 0 => by simp [fill]
  | t + 1 => by simp [fill, fill_len b t]
theorem next_range (b ws : List Int) (t : Nat) : 0 ≤ next b ws t ∧ next b ws t ≤ 4294967295 := by
  unfold next
  split
  · exact bits_range _ _ _
  · exact m32_range _
theorem U32.set {l : List Int} (h : U32 l) (i : Nat) {x : Int} (hx : 0 ≤ x ∧ x ≤ 4294967295) : U32 (l.set i x) := fun y hy => (List.mem_or_eq_of_mem_set hy).elim (h y) (fun e => e ▸ hx)
theorem fill_u32 (b : List Int) : ∀ t, U32 (fill b t)
  | 0 => fun x hx => by rw [fill] at hx; rw [List.eq_of_mem_replicate hx]; omega
  | t + 1 => (fill_u32 b t).set t (next_range _ _ _)
theorem step_u32 {v : List Int} (h : U32 v) (k x : Int) : U32 (step v k x) := by
  intro y hy
  simp only [step, List.mem_cons, List.not_mem_nil, or_false] at hy
  rcases hy with rfl | rfl | rfl | rfl | rfl | rfl | rfl | rfl
  all_goals first | exact m32_range _ | exact h.at _
theorem rounds_len {s : List Int} (hs : s.length = 8) (ws : List Int) : ∀ t, (rounds s ws t).length = 8
  | 0 => hs
  | _ + 1 => rfl
theorem rounds_u32 {s : List Int} (hs : U32 s) (ws : List Int) : ∀ t, U32 (rounds s ws t)
  | 0 => hs
  | t + 1 => step_u32 (rounds_u32 hs ws t) _ _
theorem press_len {s : List Int} (hs : s.length = 8) (b : List Int) : (press s b).length = 8 := by simp [press, hs, rounds_len hs]
theorem press_u32 (s b : List Int) : U32 (press s b) := by
  intro x hx
  unfold press at hx
  obtain ⟨i, hi, rfl⟩ := List.mem_iff_getElem.1 hx
  rw [List.getElem_zipWith]
  exact m32_range _
theorem start_u32 : U32 start := by unfold U32 start; decide
end Go.Proofs.Ytbebkogkeepfoaa.ShaPlain
/- Words turned to the right: the walks. -/
namespace Go.Proofs.Ytbebkogkeepfoaa.Sha
set_option linter.unusedVariables false
open Go.RowKit Go.Proofs.Ytbebkogkeepfoaa.Base Go.Proofs.Ytbebkogkeepfoaa.ShaPlain Go.Proofs.YtbebkogkeepfoaaW.PrintWords Go.Proofs.YtbebkogkeepfoaaW.PrintLast Go.Proofs.YtbebkogkeepfoaaW.PrintMore

set_option maxHeartbeats 800000 in
theorem rot_2 (x : Int) (w : World) (h0 : 0 ≤ x) (h1 : x ≤ 4294967295) : Calls Try.prog 75 #[.int .u32 x, .int .i64 (-2)] w fun e w' => e = .returned (.int .u32 (rot 4 1073741824 x)) ∧ w = w' := by
  have e : bits BinOp.and IntKind.u64 (IntKind.u64.wrap (-2)) 31 = 30 := by decide +kernel
  go_enter Try.func75, Try.ntmps75
  go_wp2
  go_ret
  exact ⟨rfl, rfl⟩
set_option maxHeartbeats 800000 in
theorem right_2 (x : Int) (w : World) (h0 : 0 ≤ x) (h1 : x ≤ 4294967295) : Calls Try.prog 71 #[.int .u32 x, .int .i64 2] w fun e w' => e = .returned (.int .u32 (rot 4 1073741824 x)) ∧ w = w' := by
  go_enter Try.func71, Try.ntmps71
  go_wp2_with (go_at_call 75; refine (rot_2 x _ h0 h1).mono ?_; rintro e w' ⟨rfl, rfl⟩)
  go_ret
  exact ⟨rfl, rfl⟩
set_option maxHeartbeats 800000 in
theorem turn_2 (x : Int) (w : World) (h0 : 0 ≤ x) (h1 : x ≤ 4294967295) : Calls Try.prog 69 #[.int .u32 x, .int .u64 2] w fun e w' => e = .returned (.int .u32 (rot 4 1073741824 x)) ∧ w = w' := by
  go_enter Try.func69, Try.ntmps69
  go_wp2
  go_ret
  exact ⟨congrArg (fun z => Ending.returned (Value.int .u32 z)) (or_comm _ _), rfl⟩

set_option maxHeartbeats 800000 in
theorem rot_6 (x : Int) (w : World) (h0 : 0 ≤ x) (h1 : x ≤ 4294967295) : Calls Try.prog 75 #[.int .u32 x, .int .i64 (-6)] w fun e w' => e = .returned (.int .u32 (rot 64 67108864 x)) ∧ w = w' := by
  have e : bits BinOp.and IntKind.u64 (IntKind.u64.wrap (-6)) 31 = 26 := by decide +kernel
  go_enter Try.func75, Try.ntmps75
  go_wp2
  go_ret
  exact ⟨rfl, rfl⟩
set_option maxHeartbeats 800000 in
theorem right_6 (x : Int) (w : World) (h0 : 0 ≤ x) (h1 : x ≤ 4294967295) : Calls Try.prog 71 #[.int .u32 x, .int .i64 6] w fun e w' => e = .returned (.int .u32 (rot 64 67108864 x)) ∧ w = w' := by
  go_enter Try.func71, Try.ntmps71
  go_wp2_with (go_at_call 75; refine (rot_6 x _ h0 h1).mono ?_; rintro e w' ⟨rfl, rfl⟩)
  go_ret
  exact ⟨rfl, rfl⟩
theorem rightq_6 (x : Int) (w : World) (m : Nat) (h : 0 ≤ x ∧ x ≤ 4294967295) : Calls Try.prog 71 #[.int .u32 x, .int .i64 6] (w.drewN m) fun e w'' => e = .returned (.int .u32 (rot 64 67108864 x)) ∧ ∃ m', w'' = w.drewN m' :=
  (right_6 x _ h.1 h.2).mono fun _ _ ⟨he, hw⟩ => ⟨he, m, hw.symm⟩
set_option maxHeartbeats 800000 in
theorem turn_6 (x : Int) (w : World) (h0 : 0 ≤ x) (h1 : x ≤ 4294967295) : Calls Try.prog 69 #[.int .u32 x, .int .u64 6] w fun e w' => e = .returned (.int .u32 (rot 64 67108864 x)) ∧ w = w' := by
  go_enter Try.func69, Try.ntmps69
  go_wp2
  go_ret
  exact ⟨congrArg (fun z => Ending.returned (Value.int .u32 z)) (or_comm _ _), rfl⟩

set_option maxHeartbeats 800000 in
theorem rot_7 (x : Int) (w : World) (h0 : 0 ≤ x) (h1 : x ≤ 4294967295) : Calls Try.prog 75 #[.int .u32 x, .int .i64 (-7)] w fun e w' => e = .returned (.int .u32 (rot 128 33554432 x)) ∧ w = w' := by
  have e : bits BinOp.and IntKind.u64 (IntKind.u64.wrap (-7)) 31 = 25 := by decide +kernel
  go_enter Try.func75, Try.ntmps75
  go_wp2
  go_ret
  exact ⟨rfl, rfl⟩
set_option maxHeartbeats 800000 in
theorem right_7 (x : Int) (w : World) (h0 : 0 ≤ x) (h1 : x ≤ 4294967295) : Calls Try.prog 71 #[.int .u32 x, .int .i64 7] w fun e w' => e = .returned (.int .u32 (rot 128 33554432 x)) ∧ w = w' := by
  go_enter Try.func71, Try.ntmps71
  go_wp2_with (go_at_call 75; refine (rot_7 x _ h0 h1).mono ?_; rintro e w' ⟨rfl, rfl⟩)
  go_ret
  exact ⟨rfl, rfl⟩
set_option maxHeartbeats 800000 in
theorem turn_7 (x : Int) (w : World) (h0 : 0 ≤ x) (h1 : x ≤ 4294967295) : Calls Try.prog 69 #[.int .u32 x, .int .u64 7] w fun e w' => e = .returned (.int .u32 (rot 128 33554432 x)) ∧ w = w' := by
  go_enter Try.func69, Try.ntmps69
  go_wp2
  go_ret
  exact ⟨congrArg (fun z => Ending.returned (Value.int .u32 z)) (or_comm _ _), rfl⟩

set_option maxHeartbeats 800000 in
theorem rot_11 (x : Int) (w : World) (h0 : 0 ≤ x) (h1 : x ≤ 4294967295) : Calls Try.prog 75 #[.int .u32 x, .int .i64 (-11)] w fun e w' => e = .returned (.int .u32 (rot 2048 2097152 x)) ∧ w = w' := by
  have e : bits BinOp.and IntKind.u64 (IntKind.u64.wrap (-11)) 31 = 21 := by decide +kernel
  go_enter Try.func75, Try.ntmps75
  go_wp2
  go_ret
  exact ⟨rfl, rfl⟩
set_option maxHeartbeats 800000 in
theorem right_11 (x : Int) (w : World) (h0 : 0 ≤ x) (h1 : x ≤ 4294967295) : Calls Try.prog 71 #[.int .u32 x, .int .i64 11] w fun e w' => e = .returned (.int .u32 (rot 2048 2097152 x)) ∧ w = w' := by
  go_enter Try.func71, Try.ntmps71
  go_wp2_with (go_at_call 75; refine (rot_11 x _ h0 h1).mono ?_; rintro e w' ⟨rfl, rfl⟩)
  go_ret
  exact ⟨rfl, rfl⟩
theorem rightq_11 (x : Int) (w : World) (m : Nat) (h : 0 ≤ x ∧ x ≤ 4294967295) : Calls Try.prog 71 #[.int .u32 x, .int .i64 11] (w.drewN m) fun e w'' => e = .returned (.int .u32 (rot 2048 2097152 x)) ∧ ∃ m', w'' = w.drewN m' :=
  (right_11 x _ h.1 h.2).mono fun _ _ ⟨he, hw⟩ => ⟨he, m, hw.symm⟩
set_option maxHeartbeats 800000 in
theorem turn_11 (x : Int) (w : World) (h0 : 0 ≤ x) (h1 : x ≤ 4294967295) : Calls Try.prog 69 #[.int .u32 x, .int .u64 11] w fun e w' => e = .returned (.int .u32 (rot 2048 2097152 x)) ∧ w = w' := by
  go_enter Try.func69, Try.ntmps69
  go_wp2
  go_ret
  exact ⟨congrArg (fun z => Ending.returned (Value.int .u32 z)) (or_comm _ _), rfl⟩

set_option maxHeartbeats 800000 in
theorem rot_13 (x : Int) (w : World) (h0 : 0 ≤ x) (h1 : x ≤ 4294967295) : Calls Try.prog 75 #[.int .u32 x, .int .i64 (-13)] w fun e w' => e = .returned (.int .u32 (rot 8192 524288 x)) ∧ w = w' := by
  have e : bits BinOp.and IntKind.u64 (IntKind.u64.wrap (-13)) 31 = 19 := by decide +kernel
  go_enter Try.func75, Try.ntmps75
  go_wp2
  go_ret
  exact ⟨rfl, rfl⟩
set_option maxHeartbeats 800000 in
theorem right_13 (x : Int) (w : World) (h0 : 0 ≤ x) (h1 : x ≤ 4294967295) : Calls Try.prog 71 #[.int .u32 x, .int .i64 13] w fun e w' => e = .returned (.int .u32 (rot 8192 524288 x)) ∧ w = w' := by
  go_enter Try.func71, Try.ntmps71
  go_wp2_with (go_at_call 75; refine (rot_13 x _ h0 h1).mono ?_; rintro e w' ⟨rfl, rfl⟩)
  go_ret
  exact ⟨rfl, rfl⟩
set_option maxHeartbeats 800000 in
theorem turn_13 (x : Int) (w : World) (h0 : 0 ≤ x) (h1 : x ≤ 4294967295) : Calls Try.prog 69 #[.int .u32 x, .int .u64 13] w fun e w' => e = .returned (.int .u32 (rot 8192 524288 x)) ∧ w = w' := by
  go_enter Try.func69, Try.ntmps69
  go_wp2
  go_ret
  exact ⟨congrArg (fun z => Ending.returned (Value.int .u32 z)) (or_comm _ _), rfl⟩

set_option maxHeartbeats 800000 in
theorem rot_17 (x : Int) (w : World) (h0 : 0 ≤ x) (h1 : x ≤ 4294967295) : Calls Try.prog 75 #[.int .u32 x, .int .i64 (-17)] w fun e w' => e = .returned (.int .u32 (rot 131072 32768 x)) ∧ w = w' := by
  have e : bits BinOp.and IntKind.u64 (IntKind.u64.wrap (-17)) 31 = 15 := by decide +kernel
  go_enter Try.func75, Try.ntmps75
  go_wp2
  go_ret
  exact ⟨rfl, rfl⟩
set_option maxHeartbeats 800000 in
theorem right_17 (x : Int) (w : World) (h0 : 0 ≤ x) (h1 : x ≤ 4294967295) : Calls Try.prog 71 #[.int .u32 x, .int .i64 17] w fun e w' => e = .returned (.int .u32 (rot 131072 32768 x)) ∧ w = w' := by
  go_enter Try.func71, Try.ntmps71
  go_wp2_with (go_at_call 75; refine (rot_17 x _ h0 h1).mono ?_; rintro e w' ⟨rfl, rfl⟩)
  go_ret
  exact ⟨rfl, rfl⟩
set_option maxHeartbeats 800000 in
theorem turn_17 (x : Int) (w : World) (h0 : 0 ≤ x) (h1 : x ≤ 4294967295) : Calls Try.prog 69 #[.int .u32 x, .int .u64 17] w fun e w' => e = .returned (.int .u32 (rot 131072 32768 x)) ∧ w = w' := by
  go_enter Try.func69, Try.ntmps69
  go_wp2
  go_ret
  exact ⟨congrArg (fun z => Ending.returned (Value.int .u32 z)) (or_comm _ _), rfl⟩

set_option maxHeartbeats 800000 in
theorem rot_18 (x : Int) (w : World) (h0 : 0 ≤ x) (h1 : x ≤ 4294967295) : Calls Try.prog 75 #[.int .u32 x, .int .i64 (-18)] w fun e w' => e = .returned (.int .u32 (rot 262144 16384 x)) ∧ w = w' := by
  have e : bits BinOp.and IntKind.u64 (IntKind.u64.wrap (-18)) 31 = 14 := by decide +kernel
  go_enter Try.func75, Try.ntmps75
  go_wp2
  go_ret
  exact ⟨rfl, rfl⟩
set_option maxHeartbeats 800000 in
theorem right_18 (x : Int) (w : World) (h0 : 0 ≤ x) (h1 : x ≤ 4294967295) : Calls Try.prog 71 #[.int .u32 x, .int .i64 18] w fun e w' => e = .returned (.int .u32 (rot 262144 16384 x)) ∧ w = w' := by
  go_enter Try.func71, Try.ntmps71
  go_wp2_with (go_at_call 75; refine (rot_18 x _ h0 h1).mono ?_; rintro e w' ⟨rfl, rfl⟩)
  go_ret
  exact ⟨rfl, rfl⟩
set_option maxHeartbeats 800000 in
theorem turn_18 (x : Int) (w : World) (h0 : 0 ≤ x) (h1 : x ≤ 4294967295) : Calls Try.prog 69 #[.int .u32 x, .int .u64 18] w fun e w' => e = .returned (.int .u32 (rot 262144 16384 x)) ∧ w = w' := by
  go_enter Try.func69, Try.ntmps69
  go_wp2
  go_ret
  exact ⟨congrArg (fun z => Ending.returned (Value.int .u32 z)) (or_comm _ _), rfl⟩

set_option maxHeartbeats 800000 in
theorem rot_19 (x : Int) (w : World) (h0 : 0 ≤ x) (h1 : x ≤ 4294967295) : Calls Try.prog 75 #[.int .u32 x, .int .i64 (-19)] w fun e w' => e = .returned (.int .u32 (rot 524288 8192 x)) ∧ w = w' := by
  have e : bits BinOp.and IntKind.u64 (IntKind.u64.wrap (-19)) 31 = 13 := by decide +kernel
  go_enter Try.func75, Try.ntmps75
  go_wp2
  go_ret
  exact ⟨rfl, rfl⟩
set_option maxHeartbeats 800000 in
theorem right_19 (x : Int) (w : World) (h0 : 0 ≤ x) (h1 : x ≤ 4294967295) : Calls Try.prog 71 #[.int .u32 x, .int .i64 19] w fun e w' => e = .returned (.int .u32 (rot 524288 8192 x)) ∧ w = w' := by
  go_enter Try.func71, Try.ntmps71
  go_wp2_with (go_at_call 75; refine (rot_19 x _ h0 h1).mono ?_; rintro e w' ⟨rfl, rfl⟩)
  go_ret
  exact ⟨rfl, rfl⟩
set_option maxHeartbeats 800000 in
theorem turn_19 (x : Int) (w : World) (h0 : 0 ≤ x) (h1 : x ≤ 4294967295) : Calls Try.prog 69 #[.int .u32 x, .int .u64 19] w fun e w' => e = .returned (.int .u32 (rot 524288 8192 x)) ∧ w = w' := by
  go_enter Try.func69, Try.ntmps69
  go_wp2
  go_ret
  exact ⟨congrArg (fun z => Ending.returned (Value.int .u32 z)) (or_comm _ _), rfl⟩

set_option maxHeartbeats 800000 in
theorem rot_22 (x : Int) (w : World) (h0 : 0 ≤ x) (h1 : x ≤ 4294967295) : Calls Try.prog 75 #[.int .u32 x, .int .i64 (-22)] w fun e w' => e = .returned (.int .u32 (rot 4194304 1024 x)) ∧ w = w' := by
  have e : bits BinOp.and IntKind.u64 (IntKind.u64.wrap (-22)) 31 = 10 := by decide +kernel
  go_enter Try.func75, Try.ntmps75
  go_wp2
  go_ret
  exact ⟨rfl, rfl⟩
set_option maxHeartbeats 800000 in
theorem right_22 (x : Int) (w : World) (h0 : 0 ≤ x) (h1 : x ≤ 4294967295) : Calls Try.prog 71 #[.int .u32 x, .int .i64 22] w fun e w' => e = .returned (.int .u32 (rot 4194304 1024 x)) ∧ w = w' := by
  go_enter Try.func71, Try.ntmps71
  go_wp2_with (go_at_call 75; refine (rot_22 x _ h0 h1).mono ?_; rintro e w' ⟨rfl, rfl⟩)
  go_ret
  exact ⟨rfl, rfl⟩
set_option maxHeartbeats 800000 in
theorem turn_22 (x : Int) (w : World) (h0 : 0 ≤ x) (h1 : x ≤ 4294967295) : Calls Try.prog 69 #[.int .u32 x, .int .u64 22] w fun e w' => e = .returned (.int .u32 (rot 4194304 1024 x)) ∧ w = w' := by
  go_enter Try.func69, Try.ntmps69
  go_wp2
  go_ret
  exact ⟨congrArg (fun z => Ending.returned (Value.int .u32 z)) (or_comm _ _), rfl⟩

set_option maxHeartbeats 800000 in
theorem rot_25 (x : Int) (w : World) (h0 : 0 ≤ x) (h1 : x ≤ 4294967295) : Calls Try.prog 75 #[.int .u32 x, .int .i64 (-25)] w fun e w' => e = .returned (.int .u32 (rot 33554432 128 x)) ∧ w = w' := by
  have e : bits BinOp.and IntKind.u64 (IntKind.u64.wrap (-25)) 31 = 7 := by decide +kernel
  go_enter Try.func75, Try.ntmps75
  go_wp2
  go_ret
  exact ⟨rfl, rfl⟩
set_option maxHeartbeats 800000 in
theorem right_25 (x : Int) (w : World) (h0 : 0 ≤ x) (h1 : x ≤ 4294967295) : Calls Try.prog 71 #[.int .u32 x, .int .i64 25] w fun e w' => e = .returned (.int .u32 (rot 33554432 128 x)) ∧ w = w' := by
  go_enter Try.func71, Try.ntmps71
  go_wp2_with (go_at_call 75; refine (rot_25 x _ h0 h1).mono ?_; rintro e w' ⟨rfl, rfl⟩)
  go_ret
  exact ⟨rfl, rfl⟩
theorem rightq_25 (x : Int) (w : World) (m : Nat) (h : 0 ≤ x ∧ x ≤ 4294967295) : Calls Try.prog 71 #[.int .u32 x, .int .i64 25] (w.drewN m) fun e w'' => e = .returned (.int .u32 (rot 33554432 128 x)) ∧ ∃ m', w'' = w.drewN m' :=
  (right_25 x _ h.1 h.2).mono fun _ _ ⟨he, hw⟩ => ⟨he, m, hw.symm⟩
set_option maxHeartbeats 800000 in
theorem turn_25 (x : Int) (w : World) (h0 : 0 ≤ x) (h1 : x ≤ 4294967295) : Calls Try.prog 69 #[.int .u32 x, .int .u64 25] w fun e w' => e = .returned (.int .u32 (rot 33554432 128 x)) ∧ w = w' := by
  go_enter Try.func69, Try.ntmps69
  go_wp2
  go_ret
  exact ⟨congrArg (fun z => Ending.returned (Value.int .u32 z)) (or_comm _ _), rfl⟩
end Go.Proofs.Ytbebkogkeepfoaa.Sha
/- The words of a block: sha.spread walked. -/
namespace Go.Proofs.Ytbebkogkeepfoaa.Sha
set_option linter.unusedVariables false
open Go.RowKit Go.Proofs.Ytbebkogkeepfoaa.Base Go.Proofs.Ytbebkogkeepfoaa.ShaPlain Go.Proofs.YtbebkogkeepfoaaW.PrintWords Go.Proofs.YtbebkogkeepfoaaW.PrintLast Go.Proofs.YtbebkogkeepfoaaW.PrintMore
/-- The bytes of a block that lies within a block of memory. -/
def Blk (w : World) (g o : Nat) (b : List Int) : Prop := ∀ j, j < 64 → w.cell? ⟨g, o + j, none⟩ = some (.int .u8 (b.getD j 0))
theorem Blk.below {w w1 : World} {g o : Nat} {b : List Int} (h : Blk w g o b) (hb : Below w.heap.size w w1) : Blk w1 g o b := fun j hj => (hb.cell (World.block_lt_of_cell? _ _ (h j hj))).trans (h j hj)
theorem nums_set (k : IntKind) (xs : List Int) (i : Nat) (x : Int) : (nums k xs).toArray.setIfInBounds i (.int k x) = (nums k (xs.set i x)).toArray := by
  simp [nums]
/-- Words in a block of their own. -/
def Words (w : World) (g T : Nat) (ws : List Int) : Prop := w.heap[g]? = some (.cells (nums .u32 ws).toArray T (0, 0))
theorem Words.cell {w : World} {g T : Nat} {ws : List Int} (h : Words w g T ws) (i : Nat) (hi : i < ws.length) : w.cell? ⟨g, i, none⟩ = some (.int .u32 (ws.getD i 0)) := by
  rw [blk_cell h i]
  simp [nums, List.getElem?_eq_getElem hi, List.getD_eq_getElem?_getD]
theorem Words.free {w : World} {g T : Nat} {ws : List Int} (h : Words w g T ws) (i : Nat) : w.frozen? ⟨g, i, none⟩ = false := blk_frozen h i
theorem Words.set {w : World} {g T : Nat} {ws : List Int} (h : Words w g T ws) (i : Nat) (x : Int) : Words (w.setCell ⟨g, i, none⟩ (.int .u32 x)) g T (ws.set i x) := by
  have := blk_set h i (.int .u32 x)
  rw [nums_set] at this
  exact this
theorem Words.lt {w : World} {g T : Nat} {ws : List Int} (h : Words w g T ws) : g < w.heap.size := blk_lt h
theorem word4_eq {a b c d : Int} (ha : 0 ≤ a ∧ a ≤ 255) (hb : 0 ≤ b ∧ b ≤ 255) (hc : 0 ≤ c ∧ c ≤ 255) (hd : 0 ≤ d ∧ d ≤ 255) :
    bits .or .u32 (bits .or .u32 (bits .or .u32 (IntKind.u32.wrap (IntKind.u32.wrap a * 16777216)) (IntKind.u32.wrap (IntKind.u32.wrap b * 65536))) (IntKind.u32.wrap (IntKind.u32.wrap c * 256))) (IntKind.u32.wrap d) = word4 a b c d := by
  unfold word4
  simp only [IntKind.wrap_u32]
  rw [show a % 4294967296 = a from by omega, show (b % 4294967296 * 65536) % 4294967296 = b * 65536 from by omega, show (c % 4294967296 * 256) % 4294967296 = c * 256 from by omega, show d % 4294967296 = d from by omega]
def SpreadInv (w : World) (b : List Int) (k : Nat) (wr : World) : Prop := Words wr w.heap.size 89 (fill b k) ∧ Below w.heap.size w wr
theorem SpreadInv.next {w : World} {b : List Int} {k : Nat} {wr : World} (h : SpreadInv w b k wr) {v : Int} (hv : v = ShaPlain.next b (fill b k) k) : SpreadInv w b (k + 1) (wr.drew.setCell ⟨w.heap.size, k, none⟩ (.int .u32 v)) := by
  subst hv
  exact ⟨Words.set (w := wr.drew) h.1 k _, below_set (below_drew1 h.2) (Nat.le_refl _)⟩
theorem zeros_new (w : World) : (w.alloc (.cells #[.int .u32 0, .int .u32 0, .int .u32 0, .int .u32 0, .int .u32 0, .int .u32 0, .int .u32 0, .int .u32 0, .int .u32 0, .int .u32 0, .int .u32 0, .int .u32 0, .int .u32 0, .int .u32 0, .int .u32 0, .int .u32 0, .int .u32 0, .int .u32 0, .int .u32 0, .int .u32 0, .int .u32 0, .int .u32 0, .int .u32 0, .int .u32 0, .int .u32 0, .int .u32 0, .int .u32 0, .int .u32 0, .int .u32 0, .int .u32 0, .int .u32 0, .int .u32 0, .int .u32 0, .int .u32 0, .int .u32 0, .int .u32 0, .int .u32 0, .int .u32 0, .int .u32 0, .int .u32 0, .int .u32 0, .int .u32 0, .int .u32 0, .int .u32 0, .int .u32 0, .int .u32 0, .int .u32 0, .int .u32 0, .int .u32 0, .int .u32 0, .int .u32 0, .int .u32 0, .int .u32 0, .int .u32 0, .int .u32 0, .int .u32 0, .int .u32 0, .int .u32 0, .int .u32 0, .int .u32 0, .int .u32 0, .int .u32 0, .int .u32 0, .int .u32 0] 89)).heap[w.heap.size]? = some (.cells (nums .u32 (List.replicate 64 0)).toArray 89 (0, 0)) := blk_new _ _
set_option maxHeartbeats 4000000 in
set_option maxRecDepth 100000 in
theorem spread_c (g o : Nat) (b : List Int) (w : World) (hb : Blk w g o b) (hu : ∀ j, j < 64 → 0 ≤ b.getD j 0 ∧ b.getD j 0 ≤ 255) : Calls Try.prog 70 #[.pointer (some ⟨g, o, none⟩)] w fun e w' => ∃ p : Nat, e = .returned (.pointer (some ⟨p, 0, none⟩)) ∧ w.heap.size ≤ p ∧ Words w' p 89 (fill b 64) ∧ Below w.heap.size w w' := by
  have HB := Aside0.mk hb
  have HU := Aside0.mk hu
  clear hb hu
  have H0 := Aside0.mk (show SpreadInv w b 0 (w.alloc (.cells #[.int .u32 0, .int .u32 0, .int .u32 0, .int .u32 0, .int .u32 0, .int .u32 0, .int .u32 0, .int .u32 0, .int .u32 0, .int .u32 0, .int .u32 0, .int .u32 0, .int .u32 0, .int .u32 0, .int .u32 0, .int .u32 0, .int .u32 0, .int .u32 0, .int .u32 0, .int .u32 0, .int .u32 0, .int .u32 0, .int .u32 0, .int .u32 0, .int .u32 0, .int .u32 0, .int .u32 0, .int .u32 0, .int .u32 0, .int .u32 0, .int .u32 0, .int .u32 0, .int .u32 0, .int .u32 0, .int .u32 0, .int .u32 0, .int .u32 0, .int .u32 0, .int .u32 0, .int .u32 0, .int .u32 0, .int .u32 0, .int .u32 0, .int .u32 0, .int .u32 0, .int .u32 0, .int .u32 0, .int .u32 0, .int .u32 0, .int .u32 0, .int .u32 0, .int .u32 0, .int .u32 0, .int .u32 0, .int .u32 0, .int .u32 0, .int .u32 0, .int .u32 0, .int .u32 0, .int .u32 0, .int .u32 0, .int .u32 0, .int .u32 0, .int .u32 0] 89)) from ⟨zeros_new w, below_alloc (Below.refl _ _) _⟩)
  go_enter Try.func70, Try.ntmps70
  go_wp2
  go_loopw [4, 10] (fun _ i wr => ∃ k : Nat, k ≤ 16 ∧ i = .int .i64 k ∧ SpreadInv w b k wr) (fun _ i _ => 16 - (intOf i).toNat)
  case atStart => exact ⟨0, by omega, rfl, H0.out⟩
  case round =>
    obtain ⟨k, hk, rfl, hinv⟩ := hrel
    have HI := Aside0.mk hinv
    by_cases hlt : k < 16
    · have hc := HB.out.below hinv.2
      have hf : wr.drew.frozen? ⟨w.heap.size, k, none⟩ = false := hinv.1.free k
      have hd : wr.drew.cell? ⟨w.heap.size, k, none⟩ = some (.int .u32 ((fill b k).getD k 0)) := hinv.1.cell k (by rw [fill_len]; omega)
      obtain ⟨x0, hx0⟩ : ∃ x, b.getD (4 * k) 0 = x := ⟨_, rfl⟩
      obtain ⟨x1, hx1⟩ : ∃ x, b.getD (4 * k + 1) 0 = x := ⟨_, rfl⟩
      obtain ⟨x2, hx2⟩ : ∃ x, b.getD (4 * k + 2) 0 = x := ⟨_, rfl⟩
      obtain ⟨x3, hx3⟩ : ∃ x, b.getD (4 * k + 3) 0 = x := ⟨_, rfl⟩
      obtain ⟨old, hold⟩ : ∃ x, (fill b k).getD k 0 = x := ⟨_, rfl⟩
      have c0 := hc (4 * k) (by omega)
      have c1 := hc (4 * k + 1) (by omega)
      have c2 := hc (4 * k + 2) (by omega)
      have c3 := hc (4 * k + 3) (by omega)
      have HV := Aside0.mk (show bits .or .u32 (bits .or .u32 (bits .or .u32 (IntKind.u32.wrap (IntKind.u32.wrap x0 * 16777216)) (IntKind.u32.wrap (IntKind.u32.wrap x1 * 65536))) (IntKind.u32.wrap (IntKind.u32.wrap x2 * 256))) (IntKind.u32.wrap x3) = ShaPlain.next b (fill b k) k by
        rw [word4_eq (hx0 ▸ HU.out _ (by omega)) (hx1 ▸ HU.out _ (by omega)) (hx2 ▸ HU.out _ (by omega)) (hx3 ▸ HU.out _ (by omega)), ShaPlain.next, if_pos hlt, hx0, hx1, hx2, hx3])
      rw [hx0] at c0
      rw [hx1] at c1
      rw [hx2] at c2
      rw [hx3] at c3
      rw [hold] at hd
      clear hc hx0 hx1 hx2 hx3 hold hinv
      have e0 : IntKind.i64.wrap (4 * (k : Int)) = 4 * (k : Int) := IntWalk.i64_in _ (by omega)
      have t0 : (4 * (k : Int)).toNat = 4 * k := by omega
      have g0 : (0 : Int) ≤ 4 * (k : Int) := by omega
      have f0 : 4 * (k : Int) < 64 := by omega
      have e1 : IntKind.i64.wrap (4 * (k : Int) + 1) = 4 * (k : Int) + 1 := IntWalk.i64_in _ (by omega)
      have t1 : (4 * (k : Int) + 1).toNat = 4 * k + 1 := by omega
      have g1 : (0 : Int) ≤ 4 * (k : Int) + 1 := by omega
      have f1 : 4 * (k : Int) + 1 < 64 := by omega
      have e2 : IntKind.i64.wrap (4 * (k : Int) + 2) = 4 * (k : Int) + 2 := IntWalk.i64_in _ (by omega)
      have t2 : (4 * (k : Int) + 2).toNat = 4 * k + 2 := by omega
      have g2 : (0 : Int) ≤ 4 * (k : Int) + 2 := by omega
      have f2 : 4 * (k : Int) + 2 < 64 := by omega
      have e3 : IntKind.i64.wrap (4 * (k : Int) + 3) = 4 * (k : Int) + 3 := IntWalk.i64_in _ (by omega)
      have t3 : (4 * (k : Int) + 3).toNat = 4 * k + 3 := by omega
      have g3 : (0 : Int) ≤ 4 * (k : Int) + 3 := by omega
      have f3 : 4 * (k : Int) + 3 < 64 := by omega
      have g4 : (0 : Int) ≤ (k : Int) := by omega
      have f4 : (k : Int) < 64 := by omega
      go_wp2
      go_still_tail 39, (by kernel_rfl)
      change wpList _ _ _ _ _ wr.drew
      obtain ⟨w2, hw2⟩ : ∃ w2, wr.drew = w2 := ⟨_, rfl⟩
      have HW := Aside0.mk hw2
      rw [hw2] at hf hd ⊢
      clear hw2 e0 e1 e2 e3 t0 t1 t2 t3 g0 g1 g2 g3 f0 f1 f2 f3
      go_wp2
      go_roundw
      case rel => exact ⟨k + 1, by omega, by go_num, by rw [← HW.out]; exact HI.out.next HV.out⟩
      case measure => simp [intOf]; omega
    · have HK := Aside0.mk (show k = 16 by omega)
      have hge : 16 ≤ k := by omega
      clear hinv hlt hk
      go_wp2
      clear hge
      go_loopw [5, 6, 7, 8, 9] (fun i _ _ _ _ wr => ∃ k : Nat, 16 ≤ k ∧ k ≤ 64 ∧ i = .int .i64 k ∧ SpreadInv w b k wr) (fun i _ _ _ _ _ => 64 - (intOf i).toNat)
      case atStart => exact ⟨16, by omega, by omega, rfl, by have h := HI.out; rwa [HK.out] at h⟩
      case round =>
        clear HI HK
        obtain ⟨k, hk0, hk, rfl, hinv⟩ := hrel
        have HI := Aside0.mk hinv
        by_cases hlt : k < 64
        · have hU := fun j => (fill_u32 b k).at j
          have hcw : ∀ j, j < 64 → wr.cell? ⟨w.heap.size, j, none⟩ = some (.int .u32 ((fill b k).getD j 0)) := fun j hj => hinv.1.cell j (by rw [fill_len]; omega)
          have hd := hcw k (by omega)
          have c15 := hcw (k - 15) (by omega)
          have c2 := hcw (k - 2) (by omega)
          have c16 := hcw (k - 16) (by omega)
          have c7 := hcw (k - 7) (by omega)
          obtain ⟨x15, hx15⟩ : ∃ x, (fill b k).getD (k - 15) 0 = x := ⟨_, rfl⟩
          obtain ⟨x2, hx2⟩ : ∃ x, (fill b k).getD (k - 2) 0 = x := ⟨_, rfl⟩
          obtain ⟨x16, hx16⟩ : ∃ x, (fill b k).getD (k - 16) 0 = x := ⟨_, rfl⟩
          obtain ⟨x7, hx7⟩ : ∃ x, (fill b k).getD (k - 7) 0 = x := ⟨_, rfl⟩
          obtain ⟨old, hold⟩ : ∃ x, (fill b k).getD k 0 = x := ⟨_, rfl⟩
          have r15 := hU (k - 15)
          have r2 := hU (k - 2)
          rw [hx15] at c15 r15
          rw [hx2] at c2 r2
          rw [hx16] at c16
          rw [hx7] at c7
          rw [hold] at hd
          have HR15 := Aside0.mk r15
          have HR2 := Aside0.mk r2
          have HV := Aside0.mk (show (x16 + low x15 + x7 + high x2) % 4294967296 = ShaPlain.next b (fill b k) k by
            rw [ShaPlain.next, if_neg (by omega), hx15, hx2, hx16, hx7, m32])
          clear hcw hU hx15 hx2 hx16 hx7 hold hinv r15 r2
          have e2 : IntKind.i64.wrap ((k : Int) - 2) = (k : Int) - 2 := IntWalk.i64_in _ (by omega)
          have t2 : ((k : Int) - 2).toNat = k - 2 := by omega
          have g2 : (0 : Int) ≤ (k : Int) - 2 := by omega
          have f2 : (k : Int) - 2 < 64 := by omega
          have e7 : IntKind.i64.wrap ((k : Int) - 7) = (k : Int) - 7 := IntWalk.i64_in _ (by omega)
          have t7 : ((k : Int) - 7).toNat = k - 7 := by omega
          have g7 : (0 : Int) ≤ (k : Int) - 7 := by omega
          have f7 : (k : Int) - 7 < 64 := by omega
          have e15 : IntKind.i64.wrap ((k : Int) - 15) = (k : Int) - 15 := IntWalk.i64_in _ (by omega)
          have t15 : ((k : Int) - 15).toNat = k - 15 := by omega
          have g15 : (0 : Int) ≤ (k : Int) - 15 := by omega
          have f15 : (k : Int) - 15 < 64 := by omega
          have e16 : IntKind.i64.wrap ((k : Int) - 16) = (k : Int) - 16 := IntWalk.i64_in _ (by omega)
          have t16 : ((k : Int) - 16).toNat = k - 16 := by omega
          have g16 : (0 : Int) ≤ (k : Int) - 16 := by omega
          have f16 : (k : Int) - 16 < 64 := by omega
          have g4 : (0 : Int) ≤ (k : Int) := by omega
          have f4 : (k : Int) < 64 := by omega
          go_wp2
          go_quiet (fail)
          have HI2 := Aside0.mk (show SpreadInv w b k (wr.drewN nq) from ⟨HI.out.1, pw_below_drewN HI.out.2 nq⟩)
          have hf' : (wr.drewN nq).drew.frozen? ⟨w.heap.size, k, none⟩ = false := HI.out.1.free k
          have hd' : (wr.drewN nq).drew.cell? ⟨w.heap.size, k, none⟩ = some (.int .u32 old) := hd
          have c16' : (wr.drewN nq).cell? ⟨w.heap.size, k - 16, none⟩ = some (.int .u32 x16) := c16
          have c7' : (wr.drewN nq).cell? ⟨w.heap.size, k - 7, none⟩ = some (.int .u32 x7) := c7
          clear c15 c2 c16 c7 hd HI
          revert HI2 hf' hd' c16' c7'
          generalize wr.drewN nq = wq
          intro HI2 hf hd c16 c7
          go_wp2_with (fail)
          refine (right_7 x15 _ HR15.out.1 HR15.out.2).mono ?_
          rintro e w' ⟨rfl, rfl⟩
          go_wp2_with (fail)
          refine (right_18 x15 _ HR15.out.1 HR15.out.2).mono ?_
          rintro e w' ⟨rfl, rfl⟩
          go_wp2_with (fail)
          refine (right_17 x2 _ HR2.out.1 HR2.out.2).mono ?_
          rintro e w' ⟨rfl, rfl⟩
          go_wp2_with (fail)
          refine (right_19 x2 _ HR2.out.1 HR2.out.2).mono ?_
          rintro e w' ⟨rfl, rfl⟩
          go_wp2_with (fail)
          have h16 : (16 : Int) ≤ (k : Int) := by omega
          have l16 : (k : Int) < 64 + 16 := by omega
          have h7 : (7 : Int) ≤ (k : Int) := by omega
          have l7 : (k : Int) < 64 + 7 := by omega
          go_still_tail 15, (by kernel_rfl)
          change wpList _ _ _ _ _ wq.drew
          obtain ⟨w2, hw2⟩ : ∃ w2, wq.drew = w2 := ⟨_, rfl⟩
          have HW := Aside0.mk hw2
          rw [hw2] at hf hd ⊢
          clear hw2 e2 e7 e15 e16 t2 t7 t15 t16 g2 g7 g15 g16 f2 f7 f15 f16
          go_wp2
          go_roundw
          case rel => exact ⟨k + 1, by omega, by omega, by go_num, by rw [← HW.out]; exact HI2.out.next HV.out⟩
          case measure => simp [intOf]; omega
        · have hk64 : k = 64 := by omega
          subst hk64
          clear hinv hlt hk hk0
          go_wp2
          go_ret
          exact ⟨_, rfl, Nat.le_refl _, HI.out.1, HI.out.2⟩
end Go.Proofs.Ytbebkogkeepfoaa.Sha
/- A block is taken in: sha's mix walked. -/
namespace Go.Proofs.Ytbebkogkeepfoaa.Sha
set_option linter.unusedVariables false
open Go.RowKit Go.Proofs.Ytbebkogkeepfoaa.Base Go.Proofs.Ytbebkogkeepfoaa.ShaPlain Go.Proofs.YtbebkogkeepfoaaW.PrintWords Go.Proofs.YtbebkogkeepfoaaW.PrintLast Go.Proofs.YtbebkogkeepfoaaW.PrintMore
/-- The cells of a Hash. -/
def hashC (made : Bool) (s r : List Int) (n : Int) : List Value := .bool made :: (nums .u32 s ++ (nums .u8 r ++ [.int .u64 n]))
/-- A Hash at block g. -/
def Hsh (w0 w : World) (g : Nat) (made : Bool) (s r : List Int) (n : Int) : Prop :=
  w0.heap.size ≤ g ∧ w.heap[g]? = some (.cells (hashC made s r n).toArray 40 (0, 0)) ∧ s.length = 8 ∧ r.length = 64 ∧ U32 s ∧ (∀ x ∈ r, 0 ≤ x ∧ x ≤ 255)
theorem hashC_state {made : Bool} {s r : List Int} {n : Int} (i : Nat) (hi : i < s.length) : (hashC made s r n)[1 + i]? = some (.int .u32 (s.getD i 0)) := by
  unfold hashC
  rw [Nat.add_comm, List.getElem?_cons_succ, List.getElem?_append_left (by simpa [nums] using hi)]
  simp [nums, List.getElem?_eq_getElem hi, List.getD_eq_getElem?_getD]
theorem hashC_rest {made : Bool} {s r : List Int} {n : Int} (hs : s.length = 8) (i : Nat) (hi : i < r.length) : (hashC made s r n)[9 + i]? = some (.int .u8 (r.getD i 0)) := by
  unfold hashC
  rw [show 9 + i = (8 + i) + 1 from by omega, List.getElem?_cons_succ, List.getElem?_append_right (by simp [nums, hs]), List.getElem?_append_left (by simp [nums, hs]; omega)]
  simp [nums, hs, List.getElem?_eq_getElem hi, List.getD_eq_getElem?_getD]
theorem hashC_n {made : Bool} {s r : List Int} {n : Int} (hs : s.length = 8) (hr : r.length = 64) : (hashC made s r n)[73]? = some (.int .u64 n) := by
  unfold hashC
  rw [List.getElem?_cons_succ, List.getElem?_append_right (by simp [nums, hs]), List.getElem?_append_right (by simp [nums, hs, hr])]
  simp [nums, hs, hr]
theorem hashC_len {made : Bool} {s r : List Int} {n : Int} (hs : s.length = 8) (hr : r.length = 64) : (hashC made s r n).length = 74 := by
  simp [hashC, nums, hs, hr]
theorem hashC_set_state {made : Bool} {s r : List Int} {n : Int} (i : Nat) (x : Int) (hi : i < s.length) : (hashC made s r n).set (1 + i) (.int .u32 x) = hashC made (s.set i x) r n := by
  unfold hashC
  rw [Nat.add_comm, List.set_cons_succ, List.set_append_left _ _ (by simpa [nums] using hi)]
  simp [nums]
theorem hashC_set_rest {made : Bool} {s r : List Int} {n : Int} (hs : s.length = 8) (i : Nat) (x : Int) (hi : i < r.length) : (hashC made s r n).set (9 + i) (.int .u8 x) = hashC made s (r.set i x) n := by
  unfold hashC
  rw [show 9 + i = (8 + i) + 1 from by omega, List.set_cons_succ, List.set_append_right _ _ (by simp [nums, hs]), List.set_append_left _ _ (by simp [nums, hs]; omega)]
  simp [nums, hs]
theorem hashC_set_n {made : Bool} {s r : List Int} {n : Int} (hs : s.length = 8) (hr : r.length = 64) (x : Int) : (hashC made s r n).set 73 (.int .u64 x) = hashC made s r x := by
  unfold hashC
  rw [List.set_cons_succ, List.set_append_right _ _ (by simp [nums, hs]), List.set_append_right _ _ (by simp [nums, hs, hr])]
  simp [nums, hs, hr]
theorem toArray_set (l : List Value) (i : Nat) (v : Value) : l.toArray.setIfInBounds i v = (l.set i v).toArray := by simp
namespace Hsh
variable {w0 w : World} {g : Nat} {made : Bool} {s r : List Int} {n : Int}
theorem cell (h : Hsh w0 w g made s r n) (j : Nat) : w.cell? ⟨g, j, none⟩ = (hashC made s r n)[j]? := by
  rw [blk_cell h.2.1 j]
  simp
theorem made_ (h : Hsh w0 w g made s r n) : w.cell? ⟨g, 0, none⟩ = some (.bool made) := h.cell 0
theorem state (h : Hsh w0 w g made s r n) (i : Nat) (hi : i < 8) : w.cell? ⟨g, 1 + i, none⟩ = some (.int .u32 (s.getD i 0)) := by
  rw [h.cell, hashC_state i (by rw [h.2.2.1]; omega)]
theorem rest (h : Hsh w0 w g made s r n) : Blk w g 9 r := fun j hj => by
  rw [h.cell, hashC_rest h.2.2.1 j (by rw [h.2.2.2.1]; omega)]
theorem n_ (h : Hsh w0 w g made s r n) : w.cell? ⟨g, 73, none⟩ = some (.int .u64 n) := by
  rw [h.cell, hashC_n h.2.2.1 h.2.2.2.1]
theorem free (h : Hsh w0 w g made s r n) (j : Nat) : w.frozen? ⟨g, j, none⟩ = false := blk_frozen h.2.1 j
theorem lt (h : Hsh w0 w g made s r n) : g < w.heap.size := blk_lt h.2.1
theorem below {w1 : World} (h : Hsh w0 w g made s r n) (hb : Below w.heap.size w w1) : Hsh w0 w1 g made s r n := ⟨h.1, (hb.block g (blk_lt h.2.1)).trans h.2.1, h.2.2⟩
theorem keep {w1 : World} {g' : Nat} (h : Hsh w0 w g made s r n) (hk : KeepBut w w1 g' none) (hne : g ≠ g') : Hsh w0 w1 g made s r n := ⟨h.1, hk.blk h.2.1 hne (by simp), h.2.2⟩
theorem set_state (h : Hsh w0 w g made s r n) (i : Nat) (x : Int) (hi : i < 8) (hx : 0 ≤ x ∧ x ≤ 4294967295) : Hsh w0 (w.setCell ⟨g, 1 + i, none⟩ (.int .u32 x)) g made (s.set i x) r n := by
  refine ⟨h.1, ?_, by rw [List.length_set]; exact h.2.2.1, h.2.2.2.1, h.2.2.2.2.1.set i hx, h.2.2.2.2.2⟩
  rw [blk_set h.2.1, toArray_set, hashC_set_state i x (by rw [h.2.2.1]; omega)]
theorem set_rest (h : Hsh w0 w g made s r n) (i : Nat) (x : Int) (hi : i < 64) (hx : 0 ≤ x ∧ x ≤ 255) : Hsh w0 (w.setCell ⟨g, 9 + i, none⟩ (.int .u8 x)) g made s (r.set i x) n := by
  refine ⟨h.1, ?_, h.2.2.1, by rw [List.length_set]; exact h.2.2.2.1, h.2.2.2.2.1, fun y hy => (List.mem_or_eq_of_mem_set hy).elim (h.2.2.2.2.2 y) (fun e => e ▸ hx)⟩
  rw [blk_set h.2.1, toArray_set, hashC_set_rest h.2.2.1 i x (by rw [h.2.2.2.1]; omega)]
theorem set_n (h : Hsh w0 w g made s r n) (x : Int) : Hsh w0 (w.setCell ⟨g, 73, none⟩ (.int .u64 x)) g made s r x := by
  refine ⟨h.1, ?_, h.2.2⟩
  rw [blk_set h.2.1, toArray_set, hashC_set_n h.2.2.1 h.2.2.2.1 x]
theorem byte (h : Hsh w0 w g made s r n) (j : Nat) : 0 ≤ r.getD j 0 ∧ r.getD j 0 ≤ 255 := by
  rw [List.getD_eq_getElem?_getD]
  by_cases hi : j < r.length
  · rw [List.getElem?_eq_getElem hi]; exact h.2.2.2.2.2 _ (List.getElem_mem hi)
  · rw [List.getElem?_eq_none (by omega)]; simp
end Hsh
theorem len8 {l : List Int} (h : l.length = 8) : ∃ a b c d e f g i, l = [a, b, c, d, e, f, g, i] := by
  match l, h with
  | [a, b, c, d, e, f, g, i], _ => exact ⟨a, b, c, d, e, f, g, i, rfl⟩
/-- The eight words under way, in a block of their own. -/
def MixInv (w1 : World) (v : List Int) (wr : World) : Prop := Words wr w1.heap.size 36 v ∧ Below w1.heap.size w1 wr
theorem MixInv.drewN {w1 wr : World} {v : List Int} (h : MixInv w1 v wr) (m : Nat) : MixInv w1 v (wr.drewN m) := ⟨h.1, pw_below_drewN h.2 m⟩
theorem MixInv.set {w1 wr : World} {v : List Int} (h : MixInv w1 v wr) (i : Nat) (x : Int) : MixInv w1 (v.set i x) (wr.setCell ⟨w1.heap.size, i, none⟩ (.int .u32 x)) := ⟨h.1.set i x, below_set h.2 (Nat.le_refl _)⟩
theorem info_u32 : (Try.prog.info? 35).map (·.size) = some 1 := by kernel_rfl
theorem MixInv.next {w1 w3 : World} {s ws : List Int} {k : Nat} {v0 v1 v2 v3 v4 v5 v6 X Y : Int} (h : MixInv w1 [v0, v0, v1, v2, v3, v4, v5, v6] w3) (hr : rounds s ws (k + 1) = [X, v0, v1, v2, Y, v4, v5, v6]) :
    MixInv w1 (rounds s ws (k + 1)) ((w3.setCell ⟨w1.heap.size, 0, none⟩ (.int .u32 X)).setCell ⟨w1.heap.size, 4, none⟩ (.int .u32 Y)) := by
  rw [hr]
  exact (h.set 0 X).set 4 Y
/-- The Hash under way, its first words added to. -/
def AddInv (w0 w : World) (g : Nat) (s v r : List Int) (n : Int) (j : Nat) (wx : World) : Prop :=
  Hsh w0 wx g true (List.zipWith (fun x y => m32 (x + y)) (s.take j) v ++ s.drop j) r n ∧ Below w0.heap.size w0 wx ∧ KeepBut w wx g none
theorem AddInv.next {w0 w wx : World} {g : Nat} {s v r : List Int} {n : Int} {j : Nat} (h : AddInv w0 w g s v r n j wx) (hj : j < 8) (hs : s.length = 8) (hv : v.length = 8) {X : Int} (hX : X = (s.getD j 0 + v.getD j 0) % 4294967296) :
    AddInv w0 w g s v r n (j + 1) (wx.drew.setCell ⟨g, 1 + j, none⟩ (.int .u32 X)) := by
  subst hX
  have h1 := Hsh.set_state (w := wx.drew) (w0 := w0) (g := g) (made := true) (r := r) (n := n) (s := List.zipWith (fun x y => m32 (x + y)) (s.take j) v ++ s.drop j) h.1 j ((s.getD j 0 + v.getD j 0) % 4294967296) hj (by omega)
  refine ⟨?_, below_set (below_drew1 h.2.1) h.1.1, (keep_drew h.2.2).set_ _ _⟩
  have e : (List.zipWith (fun x y => m32 (x + y)) (s.take j) v ++ s.drop j).set j ((s.getD j 0 + v.getD j 0) % 4294967296) = List.zipWith (fun x y => m32 (x + y)) (s.take (j + 1)) v ++ s.drop (j + 1) := by
    obtain ⟨s0, s1, s2, s3, s4, s5, s6, s7, rfl⟩ := len8 hs
    obtain ⟨v0, v1, v2, v3, v4, v5, v6, v7, rfl⟩ := len8 hv
    have : j = 0 ∨ j = 1 ∨ j = 2 ∨ j = 3 ∨ j = 4 ∨ j = 5 ∨ j = 6 ∨ j = 7 := by omega
    rcases this with rfl | rfl | rfl | rfl | rfl | rfl | rfl | rfl <;> rfl
  rw [e] at h1
  exact h1
theorem AddInv.cell {w0 w wx : World} {g : Nat} {s v r : List Int} {n : Int} {j : Nat} (h : AddInv w0 w g s v r n j wx) (hj : j < 8) (hs : s.length = 8) (hv : v.length = 8) : wx.cell? ⟨g, 1 + j, none⟩ = some (.int .u32 (s.getD j 0)) := by
  rw [h.1.state j hj]
  congr 2
  obtain ⟨s0, s1, s2, s3, s4, s5, s6, s7, rfl⟩ := len8 hs
  obtain ⟨v0, v1, v2, v3, v4, v5, v6, v7, rfl⟩ := len8 hv
  have : j = 0 ∨ j = 1 ∨ j = 2 ∨ j = 3 ∨ j = 4 ∨ j = 5 ∨ j = 6 ∨ j = 7 := by omega
  rcases this with rfl | rfl | rfl | rfl | rfl | rfl | rfl | rfl <;> rfl
set_option maxHeartbeats 8000000 in
set_option maxRecDepth 100000 in
theorem mix_c (w0 w : World) (g kb : Nat) (s r : List Int) (n : Int) (h : Hsh w0 w g true s r n) (hB : Below w0.heap.size w0 w) (hk : Words w kb 89 keys) (hne : kb ≠ g) :
    Calls Try.prog 47 #[.pointer (some ⟨g, 0, none⟩), .pointer (some ⟨kb, 0, none⟩)] w fun e w' => e = .returned (.tuple #[]) ∧ Hsh w0 w' g true (press s r) r n ∧ Below w0.heap.size w0 w' ∧ KeepBut w w' g none := by
  obtain ⟨s0, s1, s2, s3, s4, s5, s6, s7, hs⟩ := len8 h.2.2.1
  have HS := Aside0.mk hs
  have HI := Aside0.mk h
  have HB := Aside0.mk hB
  have HK := Aside0.mk hk
  have HNE := Aside0.mk hne
  clear h hB hk hne hs
  go_enter Try.func47, Try.ntmps47
  go_wp2_with (fail)
  refine (spread_c g 9 r w HI.out.rest (fun j _ => HI.out.byte j)).mono ?_
  rintro e w1 ⟨p, rfl, hp, hws, hb⟩
  obtain ⟨ws, hwse⟩ : ∃ ws, fill r 64 = ws := ⟨_, rfl⟩
  rw [hwse] at hws
  have HWE := Aside0.mk hwse
  have HP := Aside0.mk hp
  have HW := Aside0.mk hws
  have HI1 := Aside0.mk (HI.out.below hb)
  have HB1 := Aside0.mk hb
  have HK1 := Aside0.mk (show Words w1 kb 89 keys from (hb.block kb HK.out.lt).trans HK.out)
  have hst := HI1.out.state
  rw [HS.out] at hst
  have z0 : w1.cell? ⟨g, 1, none⟩ = some (.int .u32 s0) := hst 0 (by omega)
  have z1 : w1.cell? ⟨g, 2, none⟩ = some (.int .u32 s1) := hst 1 (by omega)
  have z2 : w1.cell? ⟨g, 3, none⟩ = some (.int .u32 s2) := hst 2 (by omega)
  have z3 : w1.cell? ⟨g, 4, none⟩ = some (.int .u32 s3) := hst 3 (by omega)
  have z4 : w1.cell? ⟨g, 5, none⟩ = some (.int .u32 s4) := hst 4 (by omega)
  have z5 : w1.cell? ⟨g, 6, none⟩ = some (.int .u32 s5) := hst 5 (by omega)
  have z6 : w1.cell? ⟨g, 7, none⟩ = some (.int .u32 s6) := hst 6 (by omega)
  have z7 : w1.cell? ⟨g, 8, none⟩ = some (.int .u32 s7) := hst 7 (by omega)
  clear hst hwse hp hws hb
  have H0 := Aside0.mk (show MixInv w1 (rounds s ws 0) (w1.alloc (.cells #[.int .u32 s0, .int .u32 s1, .int .u32 s2, .int .u32 s3, .int .u32 s4, .int .u32 s5, .int .u32 s6, .int .u32 s7] 36)) by
    refine ⟨?_, below_alloc (Below.refl _ _) _⟩
    rw [show rounds s ws 0 = s from rfl, HS.out]
    exact blk_new _ _)
  have HLS := Aside0.mk (show s.length = 8 from HI.out.2.2.1)
  have HUS := Aside0.mk (show U32 s from HI.out.2.2.2.2.1)
  go_wp2
  clear z0 z1 z2 z3 z4 z5 z6 z7
  go_loopw [6, 7, 8, 9, 10, 11, 12, 23] (fun _ _ _ _ _ _ _ i wr => ∃ k : Nat, k ≤ 64 ∧ i = .int .i64 k ∧ MixInv w1 (rounds s ws k) wr) (fun _ _ _ _ _ _ _ i _ => 64 - (intOf i).toNat)
  case atStart => exact ⟨0, by omega, rfl, H0.out⟩
  case round =>
    obtain ⟨k, hk, rfl, hinv⟩ := hrel
    have hU := (rounds_u32 HUS.out ws k).at
    obtain ⟨v0, v1, v2, v3, v4, v5, v6, v7, hv⟩ := len8 (rounds_len HLS.out ws k)
    have HV := Aside0.mk hv
    rw [hv] at hU
    have hinv' := hinv
    rw [hv] at hinv'
    have HI2 := Aside0.mk hinv'
    have hw := hinv'.1.cell
    have c0 : wr.cell? ⟨w1.heap.size, 0, none⟩ = some (.int .u32 v0) := hw 0 (by simp)
    have c1 : wr.cell? ⟨w1.heap.size, 1, none⟩ = some (.int .u32 v1) := hw 1 (by simp)
    have c2 : wr.cell? ⟨w1.heap.size, 2, none⟩ = some (.int .u32 v2) := hw 2 (by simp)
    have c4 : wr.cell? ⟨w1.heap.size, 4, none⟩ = some (.int .u32 v4) := hw 4 (by simp)
    have c5 : wr.cell? ⟨w1.heap.size, 5, none⟩ = some (.int .u32 v5) := hw 5 (by simp)
    have c6 : wr.cell? ⟨w1.heap.size, 6, none⟩ = some (.int .u32 v6) := hw 6 (by simp)
    have c7 : wr.cell? ⟨w1.heap.size, 7, none⟩ = some (.int .u32 v7) := hw 7 (by simp)
    have HR0 := Aside0.mk (show 0 ≤ v0 ∧ v0 ≤ 4294967295 from hU 0)
    have HR4 := Aside0.mk (show 0 ≤ v4 ∧ v4 ≤ 4294967295 from hU 4)
    by_cases hlt : k < 64
    · obtain ⟨kk, hkk⟩ : ∃ x, keys.getD k 0 = x := ⟨_, rfl⟩
      obtain ⟨xx, hxx⟩ : ∃ x, ws.getD k 0 = x := ⟨_, rfl⟩
      have ck : wr.cell? ⟨kb, k, none⟩ = some (.int .u32 kk) := by
        rw [← hkk]
        have := HK1.out.cell k (by show k < 64; omega)
        exact (hinv.2.cell (World.block_lt_of_cell? _ _ this)).trans this
      have cx : wr.cell? ⟨p, k, none⟩ = some (.int .u32 xx) := by
        rw [← hxx]
        have := HW.out.cell k (by rw [← HWE.out, fill_len]; omega)
        exact (hinv.2.cell (World.block_lt_of_cell? _ _ this)).trans this
      have HKX := Aside0.mk (And.intro hkk hxx)
      have g4 : (0 : Int) ≤ (k : Int) := by omega
      have f4 : (k : Int) < 64 := by omega
      clear hv hU hinv hinv' hw hkk hxx
      go_wp2
      go_quiet (fail)
      have d0 : (wr.drewN nq).cell? ⟨w1.heap.size, 0, none⟩ = some (.int .u32 v0) := c0
      have d1 : (wr.drewN nq).cell? ⟨w1.heap.size, 1, none⟩ = some (.int .u32 v1) := c1
      have d2 : (wr.drewN nq).cell? ⟨w1.heap.size, 2, none⟩ = some (.int .u32 v2) := c2
      have d5 : (wr.drewN nq).cell? ⟨w1.heap.size, 5, none⟩ = some (.int .u32 v5) := c5
      have d6 : (wr.drewN nq).cell? ⟨w1.heap.size, 6, none⟩ = some (.int .u32 v6) := c6
      have d7 : (wr.drewN nq).cell? ⟨w1.heap.size, 7, none⟩ = some (.int .u32 v7) := c7
      have dk : (wr.drewN nq).cell? ⟨kb, k, none⟩ = some (.int .u32 kk) := ck
      have dx : (wr.drewN nq).cell? ⟨p, k, none⟩ = some (.int .u32 xx) := cx
      have HI3 := Aside0.mk (HI2.out.drewN nq)
      clear c0 c1 c2 c4 c5 c6 c7 ck cx HI2
      revert d0 d1 d2 d5 d6 d7 dk dx HI3
      generalize wr.drewN nq = wq
      intro d0 d1 d2 d5 d6 d7 dk dx HI3
      have rq6 := fun m => rightq_6 v4 wq m HR4.out
      have rq11 := fun m => rightq_11 v4 wq m HR4.out
      have rq25 := fun m => rightq_25 v4 wq m HR4.out
      go_wp2_with (fail)
      go_quiet ((first | (with_reducible exact rq6 _) | (with_reducible exact rq11 _) | (with_reducible exact rq25 _)))
      have HI4 := Aside0.mk (HI3.out.drewN nq)
      clear d0 d1 d2 d5 d6 d7 dk dx HI3 rq6 rq11 rq25
      revert HI4
      generalize wq.drewN nq = w2
      intro HI4
      go_wp2_with (fail)
      refine (right_2 v0 _ HR0.out.1 HR0.out.2).mono ?_
      rintro e w' ⟨rfl, rfl⟩
      go_wp2_with (fail)
      refine (right_13 v0 _ HR0.out.1 HR0.out.2).mono ?_
      rintro e w' ⟨rfl, rfl⟩
      go_wp2_with (fail)
      refine (right_22 v0 _ HR0.out.1 HR0.out.2).mono ?_
      rintro e w' ⟨rfl, rfl⟩
      go_wp2_with (fail)
      go_still_tail 2, (by kernel_rfl)
      change wpList _ _ _ _ _ w2.drew
      refine wpList_copy_splice rfl (.tmp 90) (.tmp 91) 96 96 rfl 35 Try.underlying96 info_u32 (some ⟨w1.heap.size, 1, none⟩) (some ⟨w1.heap.size, 0, none⟩) 7 7 7 8 rfl rfl w1.heap.size 1 (nums .u32 [v0, v1, v2, v3, v4, v5, v6, v7]) 36 HI4.out.1 (nums .u32 [v0, v1, v2, v3, v4, v5, v6]) rfl (fun _ => ⟨rfl, _, rfl, fun j v hv => ?hsrc⟩) (by simp [nums]) (fun v hv => ?hone) w1.heap.size w1 (below_drew1 HI4.out.2) (Nat.le_refl _) ?_
      case hsrc =>
        have hj : j < 7 := (List.getElem?_eq_some_iff.1 hv).1
        rw [add_plain]
        have := HI4.out.1.cell j (by show j < 8; omega)
        refine (show w2.drew.cell? _ = _ from this).trans ?_
        rw [← hv]
        match j, hj with
        | 0, _ => rfl
        | 1, _ => rfl
        | 2, _ => rfl
        | 3, _ => rfl
        | 4, _ => rfl
        | 5, _ => rfl
        | 6, _ => rfl
      case hone =>
        obtain ⟨x, _, rfl⟩ := List.mem_map.1 hv
        rfl
      intro w3 hg3 hb3
      have HI5 := Aside0.mk (show MixInv w1 [v0, v0, v1, v2, v3, v4, v5, v6] w3 from ⟨hg3, hb3⟩)
      have c0 : w3.cell? ⟨w1.heap.size, 0, none⟩ = some (.int .u32 v0) := HI5.out.1.cell 0 (by simp)
      have c4 : w3.cell? ⟨w1.heap.size, 4, none⟩ = some (.int .u32 v3) := HI5.out.1.cell 4 (by simp)
      have f0 := HI5.out.1.free 0
      have f4' := HI5.out.1.free 4
      clear hg3 hb3 HI4
      go_wp2
      go_roundw
      case rel =>
        refine ⟨k + 1, by omega, by go_num, HI5.out.next ?_⟩
        rw [show rounds s ws (k + 1) = ShaPlain.step (rounds s ws k) (keys.getD k 0) (ws.getD k 0) from rfl, HV.out, HKX.out.1, HKX.out.2]
        show [m32 (one _ kk xx + two _), v0, v1, v2, m32 (v3 + one _ kk xx), v4, v5, v6] = _
        simp only [List.cons.injEq, true_and, and_true]
        constructor
        · show m32 (m32 (v7 + sigE v4 + choice v4 v5 v6 + kk + xx) + m32 (sigA v0 + most v0 v1 v2)) = _
          unfold m32 sigE sigA choice most xo an
          omega
        · show m32 (v3 + m32 (v7 + sigE v4 + choice v4 v5 v6 + kk + xx)) = _
          unfold m32 sigE choice xo an
          omega
      case measure => simp [intOf]; omega
    · have HKE := Aside0.mk (show k = 64 by omega)
      have hge : 64 ≤ k := by omega
      have c3 : wr.cell? ⟨w1.heap.size, 3, none⟩ = some (.int .u32 v3) := hw 3 (by simp)
      have hb2 := below_step HB1.out (HB1.out.mono (Nat.le_refl _) |> fun _ => hinv.2)
      have HA := Aside0.mk (show AddInv w0 w g s (rounds s ws 64) r n 0 wr from by
        refine ⟨?_, below_step HB.out hb2, KeepBut.of_below hb2 g none⟩
        rw [List.take_zero, List.zipWith_nil_left, List.nil_append, List.drop_zero]
        exact HI1.out.below hinv.2)
      have HVV := Aside0.mk (show rounds s ws 64 = [v0, v1, v2, v3, v4, v5, v6, v7] by have h := HV.out; rwa [HKE.out] at h)
      clear hv hU hinv hinv' hw hlt hk hb2
      have hdk : decide ((k : Int) < 64) = false := decide_eq_false (by omega)
      go_wp2
      clear hge hdk c0 c1 c2 c3 c4 c5 c6 c7
      go_loopw [13, 14, 104] (fun _ _ i wx => ∃ j : Nat, j ≤ 8 ∧ i = .int .i64 j ∧ AddInv w0 w g s (rounds s ws 64) r n j wx) (fun _ _ i _ => 8 - (intOf i).toNat)
      case atStart => exact ⟨0, by omega, rfl, HA.out⟩
      case round =>
        clear HA
        obtain ⟨j, hj, rfl, hinv⟩ := hrel
        have HA := Aside0.mk hinv
        by_cases hlt : j < 8
        · have hc := hinv.cell hlt HLS.out (rounds_len HLS.out ws 64)
          have hf : wr.drew.frozen? ⟨g, 1 + j, none⟩ = false := hinv.1.free (1 + j)
          have hd : wr.drew.cell? ⟨g, 1 + j, none⟩ = some (.int .u32 (s.getD j 0)) := hc
          have hN := fun X => hinv.next (X := X) hlt HLS.out (rounds_len HLS.out ws 64)
          have HN := Aside0.mk hN
          clear hN hinv
          have h8 : j = 0 ∨ j = 1 ∨ j = 2 ∨ j = 3 ∨ j = 4 ∨ j = 5 ∨ j = 6 ∨ j = 7 := by omega
          clear hj hlt HA
          rw [HS.out] at hc hd
          rcases h8 with rfl | rfl | rfl | rfl | rfl | rfl | rfl | rfl
          · dsimp only [List.getD_cons_zero, List.getD_cons_succ, Nat.reduceAdd] at hc hd hf
            have ij : ∀ w, (Instr.index 36 (.agg #[.int .u32 v0, .int .u32 v1, .int .u32 v2, .int .u32 v3, .int .u32 v4, .int .u32 v5, .int .u32 v6, .int .u32 v7]) (.int .i64 0)).run Try.prog w = .ok (.int .u32 v0) w := fun _ => by kernel_rfl
            go_wp2
            go_still_tail 11, (by kernel_rfl)
            change wpList _ _ _ _ _ wr.drew
            obtain ⟨w2, hw2⟩ : ∃ w2, wr.drew = w2 := ⟨_, rfl⟩
            have HW2 := Aside0.mk hw2
            rw [hw2] at hf hd ⊢
            clear hw2
            go_wp2
            go_roundw
            case rel =>
              refine ⟨1, by omega, rfl, ?_⟩
              rw [← HW2.out]
              exact HN.out _ (by rw [HVV.out, HS.out]; rfl)
            case measure => simp [intOf]
          · dsimp only [List.getD_cons_zero, List.getD_cons_succ, Nat.reduceAdd] at hc hd hf
            have ij : ∀ w, (Instr.index 36 (.agg #[.int .u32 v0, .int .u32 v1, .int .u32 v2, .int .u32 v3, .int .u32 v4, .int .u32 v5, .int .u32 v6, .int .u32 v7]) (.int .i64 1)).run Try.prog w = .ok (.int .u32 v1) w := fun _ => by kernel_rfl
            go_wp2
            go_still_tail 11, (by kernel_rfl)
            change wpList _ _ _ _ _ wr.drew
            obtain ⟨w2, hw2⟩ : ∃ w2, wr.drew = w2 := ⟨_, rfl⟩
            have HW2 := Aside0.mk hw2
            rw [hw2] at hf hd ⊢
            clear hw2
            go_wp2
            go_roundw
            case rel =>
              refine ⟨2, by omega, rfl, ?_⟩
              rw [← HW2.out]
              exact HN.out _ (by rw [HVV.out, HS.out]; rfl)
            case measure => simp [intOf]
          · dsimp only [List.getD_cons_zero, List.getD_cons_succ, Nat.reduceAdd] at hc hd hf
            have ij : ∀ w, (Instr.index 36 (.agg #[.int .u32 v0, .int .u32 v1, .int .u32 v2, .int .u32 v3, .int .u32 v4, .int .u32 v5, .int .u32 v6, .int .u32 v7]) (.int .i64 2)).run Try.prog w = .ok (.int .u32 v2) w := fun _ => by kernel_rfl
            go_wp2
            go_still_tail 11, (by kernel_rfl)
            change wpList _ _ _ _ _ wr.drew
            obtain ⟨w2, hw2⟩ : ∃ w2, wr.drew = w2 := ⟨_, rfl⟩
            have HW2 := Aside0.mk hw2
            rw [hw2] at hf hd ⊢
            clear hw2
            go_wp2
            go_roundw
            case rel =>
              refine ⟨3, by omega, rfl, ?_⟩
              rw [← HW2.out]
              exact HN.out _ (by rw [HVV.out, HS.out]; rfl)
            case measure => simp [intOf]
          · dsimp only [List.getD_cons_zero, List.getD_cons_succ, Nat.reduceAdd] at hc hd hf
            have ij : ∀ w, (Instr.index 36 (.agg #[.int .u32 v0, .int .u32 v1, .int .u32 v2, .int .u32 v3, .int .u32 v4, .int .u32 v5, .int .u32 v6, .int .u32 v7]) (.int .i64 3)).run Try.prog w = .ok (.int .u32 v3) w := fun _ => by kernel_rfl
            go_wp2
            go_still_tail 11, (by kernel_rfl)
            change wpList _ _ _ _ _ wr.drew
            obtain ⟨w2, hw2⟩ : ∃ w2, wr.drew = w2 := ⟨_, rfl⟩
            have HW2 := Aside0.mk hw2
            rw [hw2] at hf hd ⊢
            clear hw2
            go_wp2
            go_roundw
            case rel =>
              refine ⟨4, by omega, rfl, ?_⟩
              rw [← HW2.out]
              exact HN.out _ (by rw [HVV.out, HS.out]; rfl)
            case measure => simp [intOf]
          · dsimp only [List.getD_cons_zero, List.getD_cons_succ, Nat.reduceAdd] at hc hd hf
            have ij : ∀ w, (Instr.index 36 (.agg #[.int .u32 v0, .int .u32 v1, .int .u32 v2, .int .u32 v3, .int .u32 v4, .int .u32 v5, .int .u32 v6, .int .u32 v7]) (.int .i64 4)).run Try.prog w = .ok (.int .u32 v4) w := fun _ => by kernel_rfl
            go_wp2
            go_still_tail 11, (by kernel_rfl)
            change wpList _ _ _ _ _ wr.drew
            obtain ⟨w2, hw2⟩ : ∃ w2, wr.drew = w2 := ⟨_, rfl⟩
            have HW2 := Aside0.mk hw2
            rw [hw2] at hf hd ⊢
            clear hw2
            go_wp2
            go_roundw
            case rel =>
              refine ⟨5, by omega, rfl, ?_⟩
              rw [← HW2.out]
              exact HN.out _ (by rw [HVV.out, HS.out]; rfl)
            case measure => simp [intOf]
          · dsimp only [List.getD_cons_zero, List.getD_cons_succ, Nat.reduceAdd] at hc hd hf
            have ij : ∀ w, (Instr.index 36 (.agg #[.int .u32 v0, .int .u32 v1, .int .u32 v2, .int .u32 v3, .int .u32 v4, .int .u32 v5, .int .u32 v6, .int .u32 v7]) (.int .i64 5)).run Try.prog w = .ok (.int .u32 v5) w := fun _ => by kernel_rfl
            go_wp2
            go_still_tail 11, (by kernel_rfl)
            change wpList _ _ _ _ _ wr.drew
            obtain ⟨w2, hw2⟩ : ∃ w2, wr.drew = w2 := ⟨_, rfl⟩
            have HW2 := Aside0.mk hw2
            rw [hw2] at hf hd ⊢
            clear hw2
            go_wp2
            go_roundw
            case rel =>
              refine ⟨6, by omega, rfl, ?_⟩
              rw [← HW2.out]
              exact HN.out _ (by rw [HVV.out, HS.out]; rfl)
            case measure => simp [intOf]
          · dsimp only [List.getD_cons_zero, List.getD_cons_succ, Nat.reduceAdd] at hc hd hf
            have ij : ∀ w, (Instr.index 36 (.agg #[.int .u32 v0, .int .u32 v1, .int .u32 v2, .int .u32 v3, .int .u32 v4, .int .u32 v5, .int .u32 v6, .int .u32 v7]) (.int .i64 6)).run Try.prog w = .ok (.int .u32 v6) w := fun _ => by kernel_rfl
            go_wp2
            go_still_tail 11, (by kernel_rfl)
            change wpList _ _ _ _ _ wr.drew
            obtain ⟨w2, hw2⟩ : ∃ w2, wr.drew = w2 := ⟨_, rfl⟩
            have HW2 := Aside0.mk hw2
            rw [hw2] at hf hd ⊢
            clear hw2
            go_wp2
            go_roundw
            case rel =>
              refine ⟨7, by omega, rfl, ?_⟩
              rw [← HW2.out]
              exact HN.out _ (by rw [HVV.out, HS.out]; rfl)
            case measure => simp [intOf]
          · dsimp only [List.getD_cons_zero, List.getD_cons_succ, Nat.reduceAdd] at hc hd hf
            have ij : ∀ w, (Instr.index 36 (.agg #[.int .u32 v0, .int .u32 v1, .int .u32 v2, .int .u32 v3, .int .u32 v4, .int .u32 v5, .int .u32 v6, .int .u32 v7]) (.int .i64 7)).run Try.prog w = .ok (.int .u32 v7) w := fun _ => by kernel_rfl
            go_wp2
            go_still_tail 11, (by kernel_rfl)
            change wpList _ _ _ _ _ wr.drew
            obtain ⟨w2, hw2⟩ : ∃ w2, wr.drew = w2 := ⟨_, rfl⟩
            have HW2 := Aside0.mk hw2
            rw [hw2] at hf hd ⊢
            clear hw2
            go_wp2
            go_roundw
            case rel =>
              refine ⟨8, by omega, rfl, ?_⟩
              rw [← HW2.out]
              exact HN.out _ (by rw [HVV.out, HS.out]; rfl)
            case measure => simp [intOf]
        · have hj8 := Aside0.mk (show j = 8 by omega)
          have hge : 8 ≤ j := by omega
          clear hinv hlt hj
          go_wp2
          go_end0
          have h := HA.out
          rw [hj8.out] at h
          refine ⟨rfl, ?_, h.2⟩
          have h1 := h.1
          rw [List.take_of_length_le (by rw [HLS.out]; omega), List.drop_of_length_le (by rw [HLS.out]; omega), List.append_nil, ← HWE.out] at h1
          exact h1
end Go.Proofs.Ytbebkogkeepfoaa.Sha
/- Small plain laws on rounds, numbers and lists. -/
namespace Go.Proofs.Ytbebkogkeepfoaa.Aid
open Go.RowKit Go.Proofs.YtbebkogkeepfoaaW.PrintWords Go.Proofs.YtbebkogkeepfoaaW.PrintLast

theorem pos {α : Type} {c : Prop} [Decidable c] {a b : Nat → Option α} {r : α} (h : c) (e : Ev a r) : Ev (fun k => if c then a k else b k) r := by
  simpa only [if_pos h] using e
theorem neg {α : Type} {c : Prop} [Decidable c] {a b : Nat → Option α} {r : α} (h : ¬ c) (e : Ev b r) : Ev (fun k => if c then a k else b k) r := by
  simpa only [if_neg h] using e
theorem now {α : Type} {r s : α} (h : r = s) : Ev (fun _ => some r) s := h ▸ Ev.now r
theorem w64 {x : Int} (h0 : -9223372036854775808 ≤ x) (h1 : x ≤ 9223372036854775807) : wrap64 x = x := by unfold wrap64; omega
theorem u64 {x : Int} (h0 : 0 ≤ x) (h1 : x ≤ 18446744073709551615) : IntKind.u64.wrap x = x := IntWalk.u64_in x ⟨h0, h1⟩
theorem rd_nat (xs : List Int) (i : Nat) (h : i < xs.length) : rd xs (i : Int) = xs[i] := by
  simp [rd, List.getD_eq_getElem?_getD, List.getElem?_eq_getElem h]
theorem drop_cons {α : Type} (xs : List α) (i : Nat) (h : i < xs.length) : xs.drop i = xs[i] :: xs.drop (i + 1) := List.drop_eq_getElem_cons h
theorem inc {i n : Nat} (h : i < n) (hn : n ≤ 4611686018427387904) : wrap64 ((i : Int) + 1) = ((i + 1 : Nat) : Int) := by rw [w64 (by omega) (by omega)]; rfl
theorem take_snoc {α : Type} (xs : List α) (i : Nat) (h : i < xs.length) : xs.take (i + 1) = xs.take i ++ [xs[i]] := List.take_succ_eq_append_getElem h
end Go.Proofs.Ytbebkogkeepfoaa.Aid
/- sha: roots, New and Write walked. -/
namespace Go.Proofs.Ytbebkogkeepfoaa.Sha
set_option linter.unusedVariables false
open Go.RowKit Go.Proofs.Ytbebkogkeepfoaa.Base Go.Proofs.Ytbebkogkeepfoaa.ShaPlain Go.Proofs.Ytbebkogkeepfoaa.Aid Go.Proofs.YtbebkogkeepfoaaW.PrintWords Go.Proofs.YtbebkogkeepfoaaW.PrintLast Go.Proofs.YtbebkogkeepfoaaW.PrintMore
set_option maxHeartbeats 2000000 in
set_option maxRecDepth 100000 in
theorem roots_c (w : World) : Calls Try.prog 46 #[] w fun e w' => ∃ p : Nat, e = .returned (.pointer (some ⟨p, 0, none⟩)) ∧ w.heap.size ≤ p ∧ Words w' p 89 keys ∧ Below w.heap.size w w' := by
  go_enter Try.func46, Try.ntmps46
  go_wp2
  go_ret
  exact ⟨_, rfl, Nat.le_refl _, blk_new _ _, below_alloc (Below.refl _ _) _⟩
set_option maxHeartbeats 2000000 in
set_option maxRecDepth 100000 in
theorem new_c (w : World) : Calls Try.prog 18 #[] w fun e w' => ∃ g : Nat, e = .returned (.pointer (some ⟨g, 0, none⟩)) ∧ Hsh w w' g true ShaPlain.start (List.replicate 64 0) 0 ∧ Below w.heap.size w w' := by
  go_enter Try.func18, Try.ntmps18
  go_wp2
  go_ret
  exact ⟨_, rfl, ⟨Nat.le_refl _, blk_new _ _, rfl, by simp, start_u32, fun x hx => by rw [List.eq_of_mem_replicate hx]; omega⟩, below_alloc (Below.refl _ _) _⟩
/-- A Hash's state: the eight words, the block under way, how many bytes there were. -/
abbrev St := List Int × List Int × Nat
def put (st : St) (c : Int) : St := (if st.2.2 % 64 = 63 then press st.1 (st.2.1.set (st.2.2 % 64) c) else st.1, st.2.1.set (st.2.2 % 64) c, st.2.2 + 1)
theorem put_n (st : St) (c : Int) : (put st c).2.2 = st.2.2 + 1 := rfl
theorem puts_n (l : List Int) : ∀ st : St, (l.foldl put st).2.2 = st.2.2 + l.length := by
  induction l with
  | nil => intro st; rfl
  | cons c l ih => intro st; rw [List.foldl_cons, ih, put_n, List.length_cons]; omega
def HS (w0 w : World) (g : Nat) (st : St) : Prop := Hsh w0 w g true st.1 st.2.1 st.2.2
/-- What a Write under way has left. -/
def WInv (w0 w : World) (g kb : Nat) (st : St) (wx : World) : Prop := HS w0 wx g st ∧ Below w0.heap.size w0 wx ∧ KeepBut w wx g none ∧ Words wx kb 89 keys
theorem WInv.byte {w0 w wr : World} {g kb : Nat} {s r : List Int} {n m : Nat} {x : Int} (h : WInv w0 w g kb (s, r, n) wr) (hm : m < 64) (hx : 0 ≤ x ∧ x ≤ 255) (hkb : kb ≠ g) :
    WInv w0 w g kb (s, r.set m x, n + 1) ((wr.setCell ⟨g, 9 + m, none⟩ (.int .u8 x)).setCell ⟨g, 73, none⟩ (.int .u64 ((n : Int) + 1))) := by
  have h1 := (Hsh.set_rest h.1 m x hm hx).set_n ((n : Int) + 1)
  have hk1 : KeepBut wr ((wr.setCell ⟨g, 9 + m, none⟩ (.int .u8 x)).setCell ⟨g, 73, none⟩ (.int .u64 ((n : Int) + 1))) g none := ((KeepBut.refl wr g none).set_ _ _).set_ _ _
  exact ⟨h1, below_set (below_set h.2.1 h.1.1) h.1.1, h.2.2.1.trans hk1 (.inl rfl), hk1.blk h.2.2.2 hkb (by simp)⟩
theorem foldl_snoc {st : St} {b : List Int} {k : Nat} (hk : k < b.length) : List.foldl put st (b.take (k + 1)) = put (List.foldl put st (b.take k)) b[k] := by
  rw [take_snoc b k hk, List.foldl_append]; rfl
set_option maxHeartbeats 4000000 in
set_option maxRecDepth 100000 in
theorem write_c (w0 w : World) (g : Nat) (st : St) (A : Option Addr) (c : Nat) (b : List Int) (h : HS w0 w g st) (hB : Below w0.heap.size w0 w) (hr : Rb w A b) (hc : b.length ≤ c) (hu : ∀ x ∈ b, 0 ≤ x ∧ x ≤ 255) (hne : ∀ a, A = some a → 0 < b.length → a.block ≠ g) (hn : st.2.2 + b.length ≤ 1152921504606846976) :
    Calls Try.prog 19 #[.pointer (some ⟨g, 0, none⟩), .slice A b.length c] w fun e w' => e = .returned (.tuple #[]) ∧ HS w0 w' g (b.foldl put st) ∧ Below w0.heap.size w0 w' ∧ KeepBut w w' g none := by
  have c0 : w.cell? ⟨g, 0, none⟩ = some (.bool true) := h.made_
  have HH := Aside0.mk h
  have HB := Aside0.mk hB
  have HR := Aside0.mk hr
  have HC := Aside0.mk hc
  have HU := Aside0.mk hu
  have HNE := Aside0.mk hne
  have HN := Aside0.mk hn
  have hlen : b.length ≤ 1152921504606846976 := by omega
  clear h hB hr hc hu hne hn
  go_enter Try.func19, Try.ntmps19
  go_wp2_with (fail)
  refine (roots_c _).mono ?_
  rintro e w1 ⟨kb, rfl, hkb, hk, hb⟩
  have H0 := Aside0.mk (show WInv w0 w g kb (List.foldl put st (b.take 0)) w1 from ⟨HH.out.below hb, below_step HB.out hb, KeepBut.of_below hb g none, hk⟩)
  have HKB := Aside0.mk (show kb ≠ g by have := HH.out.lt; omega)
  clear hkb hk hb c0
  go_wp2
  go_loopw [6, 7, 20] (fun _ _ i wx => ∃ k : Nat, k ≤ b.length ∧ i = .int .i64 k ∧ WInv w0 w g kb (List.foldl put st (b.take k)) wx) (fun _ _ i _ => b.length - (intOf i).toNat)
  case atStart => exact ⟨0, by omega, rfl, H0.out⟩
  case round =>
    clear H0
    obtain ⟨k, hk, rfl, hinv⟩ := hrel
    have HI := Aside0.mk hinv
    by_cases hlt : k < b.length
    · obtain ⟨ad, rfl, hcell⟩ := Kd.at_int HR.out k (by omega) (by omega)
      obtain ⟨x, hx⟩ : ∃ x, b[k] = x := ⟨_, rfl⟩
      have HX := Aside0.mk hx
      rw [rd_nat b k hlt, hx, Int.toNat_natCast] at hcell
      have hcx : wr.cell? (ad.add k) = some (.int .u8 x) := keep_cell hinv.2.2.1 hcell (by
        rw [show (ad.add k).block = ad.block from by unfold Addr.add; split <;> rfl]
        exact HNE.out ad rfl (by omega))
      have hxr := HU.out x (by rw [← hx]; exact List.getElem_mem hlt)
      have hpn := puts_n (b.take k) st
      obtain ⟨stk, hst⟩ : ∃ z, List.foldl put st (b.take k) = z := ⟨_, rfl⟩
      have HST := Aside0.mk hst
      rw [hst] at hinv hpn HI
      obtain ⟨s, r, n⟩ := stk
      rw [List.length_take, Nat.min_eq_left hk] at hpn
      have hn' : n ≤ 1152921504606846976 := by have := HN.out; dsimp only at hpn; omega
      obtain ⟨m, hm⟩ : ∃ m, n % 64 = m := ⟨_, rfl⟩
      have HM := Aside0.mk hm
      have hm64 : m < 64 := by omega
      have hmi : (n : Int) % 64 = (m : Int) := by omega
      have hn0 : (0 : Int) ≤ (n : Int) := by omega
      have hnw : IntKind.u64.wrap ((n : Int) + 1) = ((n + 1 : Nat) : Int) := IntWalk.u64_in _ (by omega)
      have cn : wr.cell? ⟨g, 73, none⟩ = some (.int .u64 (n : Int)) := hinv.1.n_
      have cr : wr.cell? ⟨g, 9 + m, none⟩ = some (.int .u8 (r.getD m 0)) := hinv.1.rest m hm64
      have fr := hinv.1.free (9 + m)
      have H1 := Hsh.set_rest hinv.1 m x hm64 hxr
      have cn1 : (wr.setCell ⟨g, 9 + m, none⟩ (.int .u8 x)).cell? ⟨g, 73, none⟩ = some (.int .u64 (n : Int)) := H1.n_
      have fn1 := H1.free 73
      have m0 : (0 : Int) ≤ (m : Int) := by omega
      have m1 : (m : Int) < 64 := by omega
      clear hx hcell hpn hst hm hinv H1
      by_cases h63 : m = 63
      · have hb63 : ((m : Int) == 63) = true := by simp; omega
        have HXR := Aside0.mk hxr
        have HM64 := Aside0.mk hm64
        have H63 := Aside0.mk h63
        clear h63 hm64 hxr
        go_wp2_with (fail)
        have hB := WInv.byte HI.out HM64.out HXR.out HKB.out
        refine (mix_c w0 _ g kb s (r.set m x) ((n : Int) + 1) (show Hsh w0 _ g true s (r.set m x) ((n : Int) + 1) from hB.1) hB.2.1 hB.2.2.2 HKB.out).mono ?_
        rintro e w2 ⟨rfl, h1, h2, h3⟩
        have HF := Aside0.mk (show WInv w0 w g kb (List.foldl put st (b.take (k + 1))) w2 from by
          rw [foldl_snoc hlt, HST.out, HX.out]
          have e : put (s, r, n) x = (press s (r.set m x), r.set m x, n + 1) := by
            unfold put
            dsimp only
            rw [HM.out, if_pos H63.out]
          rw [e]
          exact ⟨h1, h2, hB.2.2.1.trans h3 (.inl rfl), h3.blk hB.2.2.2 HKB.out (by simp)⟩)
        clear h1 h2 h3 hB cn cr fr cn1 fn1
        go_wp2
        go_roundw
        case rel => exact ⟨k + 1, by omega, by go_num, HF.out⟩
        case measure => simp [intOf]; omega
      · have hb63 : ((m : Int) == 63) = false := by simp; omega
        have HF := Aside0.mk (show WInv w0 w g kb (List.foldl put st (b.take (k + 1))) ((wr.setCell ⟨g, 9 + m, none⟩ (.int .u8 x)).setCell ⟨g, 73, none⟩ (.int .u64 ((n : Int) + 1))) from by
          rw [foldl_snoc hlt, HST.out, HX.out]
          have e : put (s, r, n) x = (s, r.set m x, n + 1) := by
            unfold put
            dsimp only
            rw [HM.out, if_neg h63]
          rw [e]
          exact WInv.byte HI.out hm64 hxr HKB.out)
        go_wp2
        go_roundw
        case rel => exact ⟨k + 1, by omega, by go_num, HF.out⟩
        case measure => simp [intOf]; omega
    · have HKE := Aside0.mk (show b.take k = b from List.take_of_length_le (by omega))
      have hge : b.length ≤ k := by omega
      clear hinv hlt
      go_wp2
      go_end0
      have h := HI.out
      rw [HKE.out] at h
      exact ⟨rfl, h.1, h.2.1, h.2.2.1⟩
end Go.Proofs.Ytbebkogkeepfoaa.Sha
/- sha: Sum walked. -/
namespace Go.Proofs.Ytbebkogkeepfoaa.Sha
set_option linter.unusedVariables false
open Go.RowKit Go.Proofs.Ytbebkogkeepfoaa.Base Go.Proofs.Ytbebkogkeepfoaa.ShaPlain Go.Proofs.Ytbebkogkeepfoaa.Aid Go.Proofs.YtbebkogkeepfoaaW.PrintWords Go.Proofs.YtbebkogkeepfoaaW.PrintLast Go.Proofs.YtbebkogkeepfoaaW.PrintMore
/-- What is put behind a text of n bytes. -/
def sizeB (m : Nat) : List Int := (List.range 8).map fun i => ((m / 2 ^ (56 - 8 * i) % 256 : Nat) : Int)
def padB (n : Nat) : List Int := 128 :: (List.replicate ((119 - n % 64) % 64) 0 ++ sizeB (8 * n))
def outN (s : List Int) : Nat → List Int
  | 0 => List.replicate 32 0
  | k + 1 => (outN s k).set k (s.getD (k / 4) 0 / 2 ^ (24 - 8 * (k % 4)) % 256)
def outB (s : List Int) : List Int := outN s 32
theorem outN_len (s : List Int) : ∀ k, (outN s k).length = 32
  | 0 => by simp [outN]
  | k + 1 => by simp [outN, outN_len s k]
theorem outN_u8 (s : List Int) : ∀ k, ∀ x ∈ outN s k, 0 ≤ x ∧ x ≤ 255
  | 0 => fun x hx => by rw [outN] at hx; rw [List.eq_of_mem_replicate hx]; omega
  | k + 1 => fun x hx => (List.mem_or_eq_of_mem_set hx).elim (outN_u8 s k x) (fun e => by subst e; omega)
def sumB (st : St) : List Int := outB ((padB st.2.2).foldl put st).1
theorem info_hash : (Try.prog.info? 40).map (·.size) = some 74 := by kernel_rfl
theorem info_32 : (Try.prog.info? 24).map (·.size) = some 32 := by kernel_rfl
theorem hashC_one {made : Bool} {s r : List Int} {n : Int} : (hashC made s r n).toArray.all (·.oneCell') = true := by
  refine all_oneCell_toArray fun v hv => ?_
  simp only [hashC, nums, List.mem_cons, List.mem_append, List.mem_map, List.not_mem_nil, or_false] at hv
  rcases hv with rfl | ⟨x, _, rfl⟩ | ⟨x, _, rfl⟩ | rfl <;> rfl
/-- Sum under way: the copy, and the two cells of the answer. -/
def SInv (w : World) (g p2 p3 : Nat) (st : St) (W : World) : Prop :=
  HS w W g st ∧ Below w.heap.size w W ∧ W.heap[p2]? = some (.cells (nums .u8 (List.replicate 32 0)).toArray 24 (0, 0)) ∧ W.heap[p3]? = some (.cells (nums .u8 (List.replicate 32 0)).toArray 24 (0, 0)) ∧ p2 ≠ g ∧ p3 ≠ g ∧ p2 ≠ p3 ∧ w.heap.size ≤ p2 ∧ w.heap.size ≤ p3
theorem copy_block (w : World) (Z Z' : Obj) (C0 C : Array Value) (T : Nat) : (((w.alloc Z).alloc Z').alloc (.cells C0 T)).setRow (w.heap.size + 1 + 1) C = ((w.alloc Z).alloc Z').alloc (.cells C T) := by
  have h := World.setRow_alloc_new ((w.alloc Z).alloc Z') C0 C T
  simpa using h
theorem third_new (w : World) (Z Z' o : Obj) : (((w.alloc Z).alloc Z').alloc o).heap[w.heap.size + 1 + 1]? = some o := by
  have h := blk_new ((w.alloc Z).alloc Z') o
  simpa using h
theorem SInv.start {w : World} {s r : List Int} {n : Nat} (hs : s.length = 8) (hr : r.length = 64) (hsu : U32 s) (hru : ∀ x ∈ r, 0 ≤ x ∧ x ≤ 255) {C : Array Value} (hC : (hashC true s r (n : Int)).toArray = C) :
    SInv w (w.heap.size + 1 + 1) w.heap.size (w.heap.size + 1) (s, r, n) (((w.alloc (.cells (nums .u8 (List.replicate 32 0)).toArray 24)).alloc (.cells (nums .u8 (List.replicate 32 0)).toArray 24)).alloc (.cells C 40)) := by
  subst hC
  have e1 : (w.alloc (.cells (nums .u8 (List.replicate 32 0)).toArray 24)).heap.size = w.heap.size + 1 := by simp
  have e2 : ((w.alloc (.cells (nums .u8 (List.replicate 32 0)).toArray 24)).alloc (.cells (nums .u8 (List.replicate 32 0)).toArray 24)).heap.size = w.heap.size + 1 + 1 := by simp
  refine ⟨⟨by omega, ?_, hs, hr, hsu, hru⟩, below_alloc (below_alloc (below_alloc (Below.refl _ _) _) _) _, ?_, ?_, by omega, by omega, by omega, by omega, by omega⟩
  · rw [← e2]; exact blk_new _ _
  · exact blk_alloc (blk_alloc (blk_new w _) _) _
  · have h := blk_new (w.alloc (.cells (nums .u8 (List.replicate 32 0)).toArray 24)) (.cells (nums .u8 (List.replicate 32 0)).toArray 24)
    rw [e1] at h
    exact blk_alloc h _
theorem one_u8 (w : World) (x : Int) (T : Nat) : Rb (w.alloc (.cells #[.int .u8 x] T)) (some ⟨w.heap.size, 0, none⟩) [x] := by
  refine Kd.C_of_reads (d := (0 : Int)) ⟨rfl, by simp, fun _ => ⟨_, rfl, fun j hj => ?_⟩⟩
  have h0 : j = 0 := by simp at hj; exact hj
  subst h0
  rw [show (⟨w.heap.size, 0, none⟩ : Addr).add 0 = ⟨w.heap.size, 0, none⟩ from rfl]
  simp [World.cell?_alloc_new]
theorem write1 {w W : World} {g p2 p3 : Nat} {st : St} (h : SInv w g p2 p3 st W) (x : Int) (hx : 0 ≤ x ∧ x ≤ 255) (T : Nat) (hn : st.2.2 ≤ 2000000000000) :
    Calls Try.prog 19 #[.pointer (some ⟨g, 0, none⟩), .slice (some ⟨W.heap.size, 0, none⟩) 1 1] (W.alloc (.cells #[.int .u8 x] T)) fun e w' => e = .returned (.tuple #[]) ∧ SInv w g p2 p3 (put st x) w' := by
  obtain ⟨h1, h2, h3, h4, h5, h6, h7, h8, h9⟩ := h
  have hb : Below W.heap.size W (W.alloc (.cells #[.int .u8 x] T)) := below_alloc (Below.refl _ _) _
  refine (write_c w _ g st (some ⟨W.heap.size, 0, none⟩) 1 [x] (Hsh.below h1 hb) (below_step h2 hb) (one_u8 W x T) (by simp) (by simpa using hx) (fun a ha _ => by have := Hsh.lt h1; injection ha with ha; subst ha; exact Nat.ne_of_gt this) (by simp only [List.length_cons, List.length_nil]; omega)).mono ?_
  rintro e w' ⟨rfl, k1, k2, k3⟩
  exact ⟨rfl, k1, k2, k3.blk (blk_below h3 hb) h5 (by simp), k3.blk (blk_below h4 hb) h6 (by simp), h5, h6, h7, h8, h9⟩
/-- The answer's bytes under way. -/
def OInv (w : World) (g p2 p3 : Nat) (st : St) (k : Nat) (W : World) : Prop :=
  HS w W g st ∧ Below w.heap.size w W ∧ W.heap[p2]? = some (.cells (nums .u8 (List.replicate 32 0)).toArray 24 (0, 0)) ∧ W.heap[p3]? = some (.cells (nums .u8 (outN st.1 k)).toArray 24 (0, 0)) ∧ p3 ≠ g ∧ p2 ≠ p3 ∧ w.heap.size ≤ p2 ∧ w.heap.size ≤ p3
theorem OInv.next {w W : World} {g p2 p3 k : Nat} {st : St} (h : OInv w g p2 p3 st k W) {x : Int} (hx : x = st.1.getD (k / 4) 0 / 2 ^ (24 - 8 * (k % 4)) % 256) : OInv w g p2 p3 st (k + 1) (W.setCell ⟨p3, k, none⟩ (.int .u8 x)) := by
  subst hx
  obtain ⟨h1, h2, h3, h4, h5, h6, h7, h8⟩ := h
  have hk : KeepBut W (W.setCell ⟨p3, k, none⟩ (.int .u8 (st.1.getD (k / 4) 0 / 2 ^ (24 - 8 * (k % 4)) % 256))) p3 none := keep_set _ _ _ _
  refine ⟨Hsh.keep h1 hk (Ne.symm h5), below_set h2 h8, hk.blk h3 h6 (by simp), ?_, h5, h6, h7, h8⟩
  have := blk_set h4 k (.int .u8 (st.1.getD (k / 4) 0 / 2 ^ (24 - 8 * (k % 4)) % 256))
  rw [nums_set] at this
  exact this
theorem nums_one (k : IntKind) (l : List Int) : (nums k l).toArray.all (·.oneCell') = true := by
  refine all_oneCell_toArray fun v hv => ?_
  obtain ⟨x, _, rfl⟩ := List.mem_map.1 hv
  rfl
theorem snoc_at {st : St} {L : List Int} {k : Nat} {x : Int} (hk : k < L.length) (hx : L.getD k 0 = x) : put (List.foldl put st (L.take k)) x = List.foldl put st (L.take (k + 1)) := by
  rw [foldl_snoc hk, ← hx, List.getD_eq_getElem?_getD, List.getElem?_eq_getElem hk]; rfl
theorem sizeB_len (m : Nat) : (sizeB m).length = 8 := by simp [sizeB]
theorem take_n (st : St) (L : List Int) (k : Nat) : (List.foldl put st (L.take k)).2.2 ≤ st.2.2 + k := by
  rw [puts_n, List.length_take]; omega
set_option maxHeartbeats 8000000 in
set_option maxRecDepth 100000 in
theorem sum_c (w : World) (g : Nat) (st : St) (h : w.heap[g]? = some (.cells (hashC true st.1 st.2.1 st.2.2).toArray 40 (0, 0))) (hs : st.1.length = 8) (hr : st.2.1.length = 64) (hsu : U32 st.1) (hru : ∀ x ∈ st.2.1, 0 ≤ x ∧ x ≤ 255) (hn : st.2.2 ≤ 1000000000000) :
    Calls Try.prog 20 #[.pointer (some ⟨g, 0, none⟩)] w fun e w' => e = .returned (.agg (nums .u8 (sumB st)).toArray) ∧ Below w.heap.size w w' := by
  have c0 : w.cell? ⟨g, 0, none⟩ = some (.bool true) := (blk_cell h 0).trans (by simp [hashC])
  obtain ⟨s, r, n⟩ := st
  dsimp only at h hs hr hsu hru hn
  have cn : w.cell? ⟨g, 73, none⟩ = some (.int .u64 (n : Int)) := (blk_cell h 73).trans (by simpa using hashC_n hs hr)
  have hlt := blk_lt h
  have hsz : (hashC true s r (n : Int)).toArray.size = 74 := by simpa using hashC_len hs hr
  have HZ := Aside0.mk hsz
  have HB := Aside0.mk h
  have HL := Aside0.mk (And.intro hs hr)
  have HU := Aside0.mk (And.intro hsu hru)
  have HN := Aside0.mk hn
  have HG := Aside0.mk hlt
  obtain ⟨C, hC⟩ : ∃ C, (hashC true s r (n : Int)).toArray = C := ⟨_, rfl⟩
  have HCC := Aside0.mk hC
  have n0 : (0 : Int) ≤ (n : Int) := by omega
  have n1 : (n : Int) ≤ 1000000000000 := by omega
  have hlt1 : g < w.heap.size + 1 := by omega
  rw [hC] at HB hsz
  have HZS := Aside0.mk (show (Try.prog.info? 40).map (·.size) = some C.size by rw [hsz]; exact info_hash)
  have HZ74 := Aside0.mk (show (74 : Nat) = C.size from hsz.symm)
  have HONE := Aside0.mk (show C.all (·.oneCell') = true by rw [← hC]; exact hashC_one)
  clear h hs hr hsu hru hn hsz hC HZ
  go_enter Try.func20, Try.ntmps20
  have H4 := fun W => fun (hW : ((w.alloc (.cells (nums .u8 (List.replicate 32 0)).toArray 24)).alloc (.cells (nums .u8 (List.replicate 32 0)).toArray 24)).alloc (.cells C 40) = W) => hW ▸ SInv.start (w := w) HL.out.1 HL.out.2 HU.out.1 HU.out.2 HCC.out
  have H4' := Aside0.mk H4
  clear H4
  go_wp2_with (first
    | ((with_reducible refine gate_dst (N := 20) rfl ?_); refine wpList_load_row rfl 40 (.tmp 19) rfl g rfl 40 C (0, 0) _ (by exact blk_alloc (blk_alloc HB.out _) _) Try.underlying40 rfl HZS.out ?_)
    | ((with_reducible refine gate_store (t := 40) (p := 4) (v := .tmp 20) rfl ?_); go_must (refine wpList_store_row rfl 40 (.tmp 4) (.tmp 20) rfl (w.heap.size + 1 + 1) C rfl rfl 40 _ (by exact third_new _ _ _ _) HZS.out (by exact HZ74.out) HONE.out ?_); go_must (rw [copy_block]); go_must (generalize hW : World.alloc _ (Obj.cells C 40) = W); go_must (have HS := Aside0.mk (H4'.out W hW)); clear hW; have cn2 := (HS.out.2.1.cell (p := ⟨g, 73, none⟩) HG.out).trans cn))
  clear c0 cn cn2 hlt hlt1
  obtain ⟨gE, hgE⟩ : ∃ x, w.heap.size + 1 + 1 = x := ⟨_, rfl⟩
  obtain ⟨p3, hp3⟩ : ∃ x, w.heap.size + 1 = x := ⟨_, rfl⟩
  obtain ⟨p2, hp2⟩ : ∃ x, w.heap.size = x := ⟨_, rfl⟩
  rw [hgE, hp3, hp2] at HS
  rw [hgE, hp3, hp2]
  clear hgE hp3 hp2 H4' HB HCC HZS HZ74 HONE
  refine (write1 HS.out 128 (by omega) _ (by have := HN.out; dsimp only; omega)).mono ?_
  rintro e w1 ⟨rfl, h1⟩
  obtain ⟨z, hz⟩ : ∃ z, (119 - n % 64) % 64 = z := ⟨_, rfl⟩
  have HZ := Aside0.mk hz
  have H1 := Aside0.mk h1
  clear h1 hz HS
  go_wp2_with (fail)
  go_loopg [] z (fun gk wx => gk ≤ z ∧ SInv w gE p2 p3 (List.foldl put (put (s, r, n) 128) (List.replicate (z - gk) 0)) wx)
  case atStart => exact ⟨Nat.le_refl _, by rw [Nat.sub_self]; exact H1.out⟩
  case round =>
    clear H1
    obtain ⟨hgk, hinv⟩ := hrel
    have HI := Aside0.mk hinv
    obtain ⟨stz, hst⟩ : ∃ y, List.foldl put (put (s, r, n) 128) (List.replicate (z - gk) 0) = y := ⟨_, rfl⟩
    have hnn : stz.2.2 = n + 1 + (z - gk) := by rw [← hst, puts_n, put_n, List.length_replicate]
    have HST := Aside0.mk hst
    rw [hst] at HI
    have hcn := HI.out.1.n_
    obtain ⟨q, hq⟩ : ∃ q, stz.2.2 % 64 = q := ⟨_, rfl⟩
    have hqi : ((stz.2.2 : Nat) : Int) % 64 = (q : Int) := by omega
    have hz := HZ.out
    have hN := HN.out
    have HQ := Aside0.mk hq
    have HNN := Aside0.mk hnn
    by_cases h56 : q = 56
    · have hbq : ((q : Int) == 56) = true := by simp; omega
      have hbn : ((q : Int) != 56) = false := by simp; omega
      have HGK := Aside0.mk (show z - gk = z by omega)
      clear hinv hst hnn hq h56 hz hN hgk
      have HA := Aside0.mk (show SInv w gE p2 p3 (List.foldl put stz ((sizeB (8 * n)).take 0)) wr from HI.out)
      have HBN := Aside0.mk (show stz.2.2 ≤ 1100000000000 by rw [HNN.out]; have := HZ.out; have := HN.out; omega)
      go_wp2_with (fail)
      clear hcn hqi hbq hbn HI
      go_loopw [6, 34] (fun _ i wx => ∃ k : Nat, k ≤ 8 ∧ i = .int .i64 k ∧ SInv w gE p2 p3 (List.foldl put stz ((sizeB (8 * n)).take k)) wx) (fun _ i _ => 8 - (intOf i).toNat)
      case atStart => exact ⟨0, by omega, rfl, HA.out⟩
      case round =>
        clear HA
        obtain ⟨k, hk, rfl, hinv⟩ := hrel
        have HI := Aside0.mk hinv
        by_cases hlt : k < 8
        · have h8 : k = 0 ∨ k = 1 ∨ k = 2 ∨ k = 3 ∨ k = 4 ∨ k = 5 ∨ k = 6 ∨ k = 7 := by omega
          clear hk hlt hinv
          rcases h8 with rfl | rfl | rfl | rfl | rfl | rfl | rfl | rfl
          · go_wp2_with (fail)
            refine (write1 HI.out _ (by omega) _ (by have := take_n stz (sizeB (8 * n)) 0; have := HBN.out; omega)).mono ?_
            rintro e w2 ⟨rfl, h2⟩
            rw [snoc_at (by rw [sizeB_len]; omega) (by show ((8 * n / 2 ^ (56 - 8 * 0) % 256 : Nat) : Int) = _; simp only [Nat.reduceMul, Nat.reduceSub, Nat.reducePow]; omega)] at h2
            have H2 := Aside0.mk h2
            clear h2
            go_wp2_with (fail)
            go_roundw
            case rel => exact ⟨1, by omega, rfl, H2.out⟩
            case measure => simp [intOf]
          · go_wp2_with (fail)
            refine (write1 HI.out _ (by omega) _ (by have := take_n stz (sizeB (8 * n)) 1; have := HBN.out; omega)).mono ?_
            rintro e w2 ⟨rfl, h2⟩
            rw [snoc_at (by rw [sizeB_len]; omega) (by show ((8 * n / 2 ^ (56 - 8 * 1) % 256 : Nat) : Int) = _; simp only [Nat.reduceMul, Nat.reduceSub, Nat.reducePow]; omega)] at h2
            have H2 := Aside0.mk h2
            clear h2
            go_wp2_with (fail)
            go_roundw
            case rel => exact ⟨2, by omega, rfl, H2.out⟩
            case measure => simp [intOf]
          · go_wp2_with (fail)
            refine (write1 HI.out _ (by omega) _ (by have := take_n stz (sizeB (8 * n)) 2; have := HBN.out; omega)).mono ?_
            rintro e w2 ⟨rfl, h2⟩
            rw [snoc_at (by rw [sizeB_len]; omega) (by show ((8 * n / 2 ^ (56 - 8 * 2) % 256 : Nat) : Int) = _; simp only [Nat.reduceMul, Nat.reduceSub, Nat.reducePow]; omega)] at h2
            have H2 := Aside0.mk h2
            clear h2
            go_wp2_with (fail)
            go_roundw
            case rel => exact ⟨3, by omega, rfl, H2.out⟩
            case measure => simp [intOf]
          · go_wp2_with (fail)
            refine (write1 HI.out _ (by omega) _ (by have := take_n stz (sizeB (8 * n)) 3; have := HBN.out; omega)).mono ?_
            rintro e w2 ⟨rfl, h2⟩
            rw [snoc_at (by rw [sizeB_len]; omega) (by show ((8 * n / 2 ^ (56 - 8 * 3) % 256 : Nat) : Int) = _; simp only [Nat.reduceMul, Nat.reduceSub, Nat.reducePow]; omega)] at h2
            have H2 := Aside0.mk h2
            clear h2
            go_wp2_with (fail)
            go_roundw
            case rel => exact ⟨4, by omega, rfl, H2.out⟩
            case measure => simp [intOf]
          · go_wp2_with (fail)
            refine (write1 HI.out _ (by omega) _ (by have := take_n stz (sizeB (8 * n)) 4; have := HBN.out; omega)).mono ?_
            rintro e w2 ⟨rfl, h2⟩
            rw [snoc_at (by rw [sizeB_len]; omega) (by show ((8 * n / 2 ^ (56 - 8 * 4) % 256 : Nat) : Int) = _; simp only [Nat.reduceMul, Nat.reduceSub, Nat.reducePow]; omega)] at h2
            have H2 := Aside0.mk h2
            clear h2
            go_wp2_with (fail)
            go_roundw
            case rel => exact ⟨5, by omega, rfl, H2.out⟩
            case measure => simp [intOf]
          · go_wp2_with (fail)
            refine (write1 HI.out _ (by omega) _ (by have := take_n stz (sizeB (8 * n)) 5; have := HBN.out; omega)).mono ?_
            rintro e w2 ⟨rfl, h2⟩
            rw [snoc_at (by rw [sizeB_len]; omega) (by show ((8 * n / 2 ^ (56 - 8 * 5) % 256 : Nat) : Int) = _; simp only [Nat.reduceMul, Nat.reduceSub, Nat.reducePow]; omega)] at h2
            have H2 := Aside0.mk h2
            clear h2
            go_wp2_with (fail)
            go_roundw
            case rel => exact ⟨6, by omega, rfl, H2.out⟩
            case measure => simp [intOf]
          · go_wp2_with (fail)
            refine (write1 HI.out _ (by omega) _ (by have := take_n stz (sizeB (8 * n)) 6; have := HBN.out; omega)).mono ?_
            rintro e w2 ⟨rfl, h2⟩
            rw [snoc_at (by rw [sizeB_len]; omega) (by show ((8 * n / 2 ^ (56 - 8 * 6) % 256 : Nat) : Int) = _; simp only [Nat.reduceMul, Nat.reduceSub, Nat.reducePow]; omega)] at h2
            have H2 := Aside0.mk h2
            clear h2
            go_wp2_with (fail)
            go_roundw
            case rel => exact ⟨7, by omega, rfl, H2.out⟩
            case measure => simp [intOf]
          · go_wp2_with (fail)
            refine (write1 HI.out _ (by omega) _ (by have := take_n stz (sizeB (8 * n)) 7; have := HBN.out; omega)).mono ?_
            rintro e w2 ⟨rfl, h2⟩
            rw [snoc_at (by rw [sizeB_len]; omega) (by show ((8 * n / 2 ^ (56 - 8 * 7) % 256 : Nat) : Int) = _; simp only [Nat.reduceMul, Nat.reduceSub, Nat.reducePow]; omega)] at h2
            have H2 := Aside0.mk h2
            clear h2
            go_wp2_with (fail)
            go_roundw
            case rel => exact ⟨8, by omega, rfl, H2.out⟩
            case measure => simp [intOf]
        · have HKE := Aside0.mk (show k = 8 by omega)
          have hge : 8 ≤ k := by omega
          have hdk : decide ((k : Int) < 8) = false := decide_eq_false (by omega)
          obtain ⟨stf, hstf⟩ : ∃ y, List.foldl put stz ((sizeB (8 * n)).take k) = y := ⟨_, rfl⟩
          have HSF := Aside0.mk (show stf = List.foldl put (s, r, n) (padB n) by
            rw [← hstf, HKE.out, ← HST.out, HGK.out, List.take_of_length_le (by rw [sizeB_len]; omega), ← HZ.out]
            rw [padB, List.foldl_cons, List.foldl_append])
          rw [hstf] at HI
          have HO := Aside0.mk (show OInv w gE p2 p3 stf 0 wr from ⟨HI.out.1, HI.out.2.1, HI.out.2.2.1, HI.out.2.2.2.1, HI.out.2.2.2.2.2.1, HI.out.2.2.2.2.2.2.1, HI.out.2.2.2.2.2.2.2.1, HI.out.2.2.2.2.2.2.2.2⟩)
          clear hinv hlt hk hstf HI
          go_wp2_with (fail)
          clear hge hdk
          go_loopw [7, 46] (fun _ i wx => ∃ m : Nat, m ≤ 32 ∧ i = .int .i64 m ∧ OInv w gE p2 p3 stf m wx) (fun _ i _ => 32 - (intOf i).toNat)
          case atStart => exact ⟨0, by omega, rfl, HO.out⟩
          case round =>
            clear HO
            obtain ⟨m, hm, rfl, hinv⟩ := hrel
            have HO := Aside0.mk hinv
            by_cases hlt : m < 32
            · obtain ⟨q, hq⟩ : ∃ q, m / 4 = q := ⟨_, rfl⟩
              have HQ := Aside0.mk hq
              have hc := hinv.1.state q (by omega)
              have hxr := hinv.1.2.2.2.2.1.at q
              have hcell : wr.cell? ⟨p3, m, none⟩ = some (.int .u8 ((outN stf.1 m).getD m 0)) := by
                rw [blk_cell hinv.2.2.2.1 m]
                simp [nums, List.getElem?_eq_getElem (show m < (outN stf.1 m).length by rw [outN_len]; omega), List.getD_eq_getElem?_getD]
              have hfree := blk_frozen hinv.2.2.2.1 m
              obtain ⟨x, hx⟩ : ∃ x, stf.1.getD q 0 = x := ⟨_, rfl⟩
              obtain ⟨old, hold⟩ : ∃ x, (outN stf.1 m).getD m 0 = x := ⟨_, rfl⟩
              rw [hx] at hc hxr
              rw [hold] at hcell
              have HX := Aside0.mk hx
              have x0 := hxr.1
              have x1 := hxr.2
              have hqi : (m : Int) / 4 = (q : Int) := by omega
              have q0 : (0 : Int) ≤ (q : Int) := by omega
              have q1 : (q : Int) < 8 := by omega
              have m0 : (0 : Int) ≤ (m : Int) := by omega
              have m1 : (m : Int) < 32 := by omega
              have hr4 : m % 4 = 0 ∨ m % 4 = 1 ∨ m % 4 = 2 ∨ m % 4 = 3 := by omega
              clear hinv hold hxr hq hx
              rcases hr4 with hr4 | hr4 | hr4 | hr4
              · have hri : (m : Int) % 4 = 0 := by omega
                have HR4 := Aside0.mk hr4
                clear hr4
                go_wp2
                go_roundw
                case rel => exact ⟨m + 1, by omega, by go_num, HO.out.next (by rw [HQ.out, HX.out, HR4.out]; simp only [Nat.reduceMul, Nat.reduceSub, Int.reducePow] <;> omega)⟩
                case measure => simp [intOf]; omega
              · have hri : (m : Int) % 4 = 1 := by omega
                have HR4 := Aside0.mk hr4
                clear hr4
                go_wp2
                go_roundw
                case rel => exact ⟨m + 1, by omega, by go_num, HO.out.next (by rw [HQ.out, HX.out, HR4.out]; simp only [Nat.reduceMul, Nat.reduceSub, Int.reducePow] <;> omega)⟩
                case measure => simp [intOf]; omega
              · have hri : (m : Int) % 4 = 2 := by omega
                have HR4 := Aside0.mk hr4
                clear hr4
                go_wp2
                go_roundw
                case rel => exact ⟨m + 1, by omega, by go_num, HO.out.next (by rw [HQ.out, HX.out, HR4.out]; simp only [Nat.reduceMul, Nat.reduceSub, Int.reducePow] <;> omega)⟩
                case measure => simp [intOf]; omega
              · have hri : (m : Int) % 4 = 3 := by omega
                have HR4 := Aside0.mk hr4
                clear hr4
                go_wp2
                go_roundw
                case rel => exact ⟨m + 1, by omega, by go_num, HO.out.next (by rw [HQ.out, HX.out, HR4.out]; simp only [Nat.reduceMul, Nat.reduceSub, Int.reducePow] <;> omega)⟩
                case measure => simp [intOf]; omega
            · have HM := Aside0.mk (show m = 32 by omega)
              have hge : 32 ≤ m := by omega
              obtain ⟨D, hD⟩ : ∃ D, (nums .u8 (outN stf.1 m)).toArray = D := ⟨_, rfl⟩
              obtain ⟨Z, hZ⟩ : ∃ Z, (nums .u8 (List.replicate 32 0)).toArray = Z := ⟨_, rfl⟩
              have h3 := hinv.2.2.2.1
              have h2 := hinv.2.2.1
              rw [hD] at h3
              rw [hZ] at h2
              have H3 := Aside0.mk h3
              have H2 := Aside0.mk h2
              have hds : D.size = 32 := by rw [← hD]; simp [nums, outN_len]
              have hzs : Z.size = D.size := by rw [hds, ← hZ]; simp [nums]
              have HI := Aside0.mk (show (Try.prog.info? 24).map (·.size) = some D.size by rw [hds]; exact info_32)
              have HZS := Aside0.mk hzs
              have HONE := Aside0.mk (show D.all (·.oneCell') = true by rw [← hD]; exact nums_one _ _)
              have HBL := Aside0.mk (And.intro hinv.2.1 hinv.2.2.2.2.2.2.1)
              have HFIN := Aside0.mk (show D = (nums .u8 (sumB (s, r, n))).toArray by rw [← hD, HM.out, sumB, ← HSF.out]; rfl)
              clear hD hZ h3 h2 hds hzs hlt hm hinv
              go_wp2_with (first
                | ((with_reducible refine gate_dst (N := 63) rfl ?_); refine wpList_load_row rfl 24 (.tmp 3) rfl p3 rfl 24 D (0, 0) _ H3.out Try.underlying24 rfl HI.out ?_)
                | ((with_reducible refine gate_store (t := 24) (p := 2) (v := .tmp 63) rfl ?_); refine wpList_store_row rfl 24 (.tmp 2) (.tmp 63) rfl p2 D rfl rfl 24 Z H2.out HI.out HZS.out HONE.out ?_))
              have HSR := setRow_heap wr p2 Z D _ _ H2.out
              refine bodyPost_ret (v := .agg D) (results_cell_row rfl _ _ p2 24 D (0, 0) _ rfl HSR Try.underlying24 rfl HI.out) rfl ⟨by rw [HFIN.out], below_setRow HBL.out.1 HBL.out.2 D⟩
    · have hbq : ((q : Int) == 56) = false := by simp; omega
      have hbn : ((q : Int) != 56) = true := by simp; omega
      have HGK := Aside0.mk (show 0 < gk by omega)
      have HB := Aside0.mk (show stz.2.2 ≤ 2000000000000 by omega)
      have HGZ := Aside0.mk hgk
      clear hinv hst hnn hq h56 hz hN hgk
      go_wp2_with (fail)
      refine (write1 HI.out 0 (by omega) _ HB.out).mono ?_
      rintro e w2 ⟨rfl, h2⟩
      have H2 := Aside0.mk h2
      clear h2 hcn
      go_wp2_with (fail)
      go_roundg (gk - 1)
      case measure => have := HGK.out; omega
      case rel =>
        refine ⟨by have := HGZ.out; omega, ?_⟩
        rw [show z - (gk - 1) = (z - gk) + 1 from by have := HGZ.out; have := HGK.out; omega, List.replicate_succ', List.foldl_append, HST.out]
        exact H2.out
end Go.Proofs.Ytbebkogkeepfoaa.Sha
/- sha: Of walked. -/
namespace Go.Proofs.Ytbebkogkeepfoaa.Sha
set_option linter.unusedVariables false
open Go.RowKit Go.Proofs.Ytbebkogkeepfoaa.Base Go.Proofs.Ytbebkogkeepfoaa.ShaPlain Go.Proofs.Ytbebkogkeepfoaa.Aid Go.Proofs.YtbebkogkeepfoaaW.PrintWords Go.Proofs.YtbebkogkeepfoaaW.PrintLast Go.Proofs.YtbebkogkeepfoaaW.PrintMore
def st0 : St := (ShaPlain.start, List.replicate 64 0, 0)
/-- The sum of bytes. -/
def shaB (b : List Int) : List Int := sumB (b.foldl put st0)
theorem shaB_len (b : List Int) : (shaB b).length = 32 := outN_len _ _
theorem shaB_u8 (b : List Int) : ∀ x ∈ shaB b, 0 ≤ x ∧ x ≤ 255 := outN_u8 _ _
theorem rows_at {w : World} {A : Option Addr} {l : List (List Int)} (h : Rr w A l) (k : Nat) (hk : k < l.length) : ∃ ad A1 c1, A = some ad ∧ w.cell? (ad.add k) = some (.slice A1 l[k].length c1) ∧ l[k].length ≤ c1 ∧ Rb w A1 l[k] := by
  obtain ⟨ad, hA, hc⟩ := h.2.2 (by omega)
  obtain ⟨cs, hl, ⟨A1, c1, hcs, h2, h3⟩, h4⟩ := hc k l[k] (List.getElem?_eq_getElem hk)
  refine ⟨ad, A1, c1, hA, ?_, h2, h3⟩
  have := h4 0 (.slice A1 l[k].length c1) (by rw [hcs]; rfl)
  rwa [show k * (Kd.slice 5 (Kd.int .u8)).sz + 0 = k from by show k * 1 + 0 = k; omega] at this
theorem reads_lt {w : World} {A : Option Addr} {b : List Int} (h : Rb w A b) : ∀ a, A = some a → 0 < b.length → a.block < w.heap.size := by
  intro a ha h0
  obtain ⟨ad, e, hc⟩ := Kd.at_int h 0 (by omega) (by omega)
  rw [ha] at e
  injection e with e
  subst e
  have := World.block_lt_of_cell? _ _ hc
  rwa [show (a.add (0 : Int).toNat).block = a.block from by unfold Addr.add; split <;> rfl] at this
def OfInv (w : World) (g : Nat) (st : St) (W : World) : Prop := HS w W g st ∧ Below w.heap.size w W ∧ W.heap[w.heap.size]? = some (.cells (nums .u8 (List.replicate 32 0)).toArray 24 (0, 0)) ∧ w.heap.size ≠ g
theorem flat_take (l : List (List Int)) (k : Nat) (hk : k < l.length) : (l.take (k + 1)).flatten = (l.take k).flatten ++ l[k] := by
  rw [Aid.take_snoc l k hk, List.flatten_append]; simp
set_option maxHeartbeats 4000000 in
set_option maxRecDepth 100000 in
theorem of_c (A : Option Addr) (c : Nat) (l : List (List Int)) (w : World) (hr : Rr w A l) (hc : l.length ≤ c) (hu : ∀ p ∈ l, ∀ x ∈ p, 0 ≤ x ∧ x ≤ 255) (hn : l.flatten.length ≤ 1000000000000) (hl : l.length ≤ 4611686018427387904) :
    Calls Try.prog 14 #[.slice A l.length c] w fun e w' => e = .returned (.agg (nums .u8 (shaB l.flatten)).toArray) ∧ Below w.heap.size w w' := by
  have HR := Aside0.mk hr
  have HU := Aside0.mk hu
  have HN := Aside0.mk hn
  clear hr hu hn
  go_enter Try.func14, Try.ntmps14
  go_wp2_with (fail)
  refine (new_c _).mono ?_
  rintro e w1 ⟨g, rfl, hh, hb⟩
  have hz : (w.alloc (.cells (nums .u8 (List.replicate 32 0)).toArray 24)).heap[w.heap.size]? = _ := blk_new w _
  have hsz : (w.alloc (.cells (nums .u8 (List.replicate 32 0)).toArray 24)).heap.size = w.heap.size + 1 := by simp
  have hge : w.heap.size + 1 ≤ g := by rw [← hsz]; exact hh.1
  have H0 := Aside0.mk (show OfInv w g (List.foldl put st0 ((l.take 0).flatten)) w1 from ⟨⟨by omega, hh.2⟩, below_step (below_alloc (Below.refl _ _) _) hb, blk_below hz hb, by omega⟩)
  clear hh hb hz hsz hge
  go_wp2_with (fail)
  go_loopw [5, 9] (fun _ i wx => ∃ k : Nat, k ≤ l.length ∧ i = .int .i64 k ∧ OfInv w g (List.foldl put st0 ((l.take k).flatten)) wx) (fun _ i _ => l.length - (intOf i).toNat)
  case atStart => exact ⟨0, by omega, rfl, H0.out⟩
  case round =>
    clear H0
    obtain ⟨k, hk, rfl, hinv⟩ := hrel
    have HI := Aside0.mk hinv
    by_cases hlt : k < l.length
    · obtain ⟨ad, A1, c1, rfl, hcell, hc1, hrd⟩ := rows_at HR.out k hlt
      have hcw := (hinv.2.1.cell (World.block_lt_of_cell? _ _ hcell)).trans hcell
      have HP := Aside0.mk (Kd.C_below hrd hinv.2.1)
      have HC1 := Aside0.mk hc1
      have HNE := Aside0.mk (show ∀ a, A1 = some a → 0 < l[k].length → a.block ≠ g from fun a ha h0 => by
        have h1 := reads_lt hrd a ha h0
        have h2 := hinv.1.1
        omega)
      have HUK := Aside0.mk (HU.out l[k] (List.getElem_mem hlt))
      have HBN := Aside0.mk (show (List.foldl put st0 ((l.take k).flatten)).2.2 + l[k].length ≤ 1152921504606846976 by
        rw [puts_n]
        have h1 := congrArg List.length (flat_take l k hlt)
        have h2 : l.flatten.length = (l.take (k + 1)).flatten.length + (l.drop (k + 1)).flatten.length := by rw [← List.length_append, ← List.flatten_append, List.take_append_drop]
        have h3 := HN.out
        rw [List.length_append] at h1
        show 0 + (l.take k).flatten.length + _ ≤ _
        omega)
      obtain ⟨p, hp⟩ : ∃ p, l[k] = p := ⟨_, rfl⟩
      have HPE := Aside0.mk hp
      rw [hp] at hcw HP HC1 HNE HUK HBN
      clear hcell hc1 hrd hinv hp
      go_wp2_with (fail)
      refine (write_c w _ g _ A1 c1 p HI.out.1 HI.out.2.1 HP.out HC1.out HUK.out HNE.out HBN.out).mono ?_
      rintro e w2 ⟨rfl, h1, h2, h3⟩
      have HF := Aside0.mk (show OfInv w g (List.foldl put st0 ((l.take (k + 1)).flatten)) w2 from by
        refine ⟨?_, h2, h3.blk HI.out.2.2.1 HI.out.2.2.2 (by simp), HI.out.2.2.2⟩
        rw [flat_take l k hlt, List.foldl_append, HPE.out]
        exact h1)
      clear h1 h2 h3 hcw
      go_wp2_with (fail)
      go_roundw
      case rel => exact ⟨k + 1, by omega, by go_num, HF.out⟩
      case measure => simp [intOf]; omega
    · have HKE := Aside0.mk (show l.take k = l from List.take_of_length_le (by omega))
      have hge : l.length ≤ k := by omega
      have hi := hinv
      rw [HKE.out] at hi
      have HJ := Aside0.mk hi
      clear hinv hlt hk hi HI
      go_wp2_with (fail)
      have hj := HJ.out.1
      have hpn := puts_n l.flatten st0
      refine (sum_c wr g _ hj.2.1 hj.2.2.1 hj.2.2.2.1 hj.2.2.2.2.1 hj.2.2.2.2.2 (by rw [hpn]; have := HN.out; show 0 + _ ≤ _; omega)).mono ?_
      rintro e w3 ⟨rfl, h1⟩
      obtain ⟨D, hD⟩ : ∃ D, (nums .u8 (sumB (List.foldl put st0 l.flatten))).toArray = D := ⟨_, rfl⟩
      have hds : D.size = 32 := by rw [← hD]; simp [nums, sumB, outB, outN_len]
      have HI := Aside0.mk (show (Try.prog.info? 24).map (·.size) = some D.size by rw [hds]; exact info_32)
      have HONE := Aside0.mk (show D.all (·.oneCell') = true by rw [← hD]; exact nums_one _ _)
      have HFIN := Aside0.mk (show (nums .u8 (shaB l.flatten)).toArray = D from hD)
      obtain ⟨Z, hZ⟩ : ∃ Z, (nums .u8 (List.replicate 32 0)).toArray = Z := ⟨_, rfl⟩
      have h2 := blk_below HJ.out.2.2.1 h1
      rw [hZ] at h2
      have H2 := Aside0.mk h2
      have HZS := Aside0.mk (show Z.size = D.size by rw [hds, ← hZ]; simp [nums])
      have HBL := Aside0.mk (below_step HJ.out.2.1 h1)
      rw [hD]
      clear hj hpn hD hds hZ h1 h2
      go_wp2_with ((with_reducible refine gate_store (t := 24) (p := 2) (v := .tmp 18) rfl ?_); refine wpList_store_row rfl 24 (.tmp 2) (.tmp 18) rfl w.heap.size D rfl rfl 24 Z H2.out HI.out HZS.out HONE.out ?_)
      have HSR := setRow_heap w3 w.heap.size Z D _ _ H2.out
      refine bodyPost_ret (v := .agg D) (results_cell_row rfl _ _ w.heap.size 24 D (0, 0) _ rfl HSR Try.underlying24 rfl HI.out) rfl ⟨by rw [HFIN.out], below_setRow HBL.out (Nat.le_refl _) D⟩
end Go.Proofs.Ytbebkogkeepfoaa.Sha
/- The tree of sums, plainly: root, paths, frontier; the plain laws. -/
namespace Go.Proofs.Ytbebkogkeepfoaa.Tree
set_option linter.unusedVariables false
open Go.Proofs.Ytbebkogkeepfoaa.Sha
attribute [local irreducible] shaB
abbrev Sm := List Int
def Z : Sm := List.replicate 32 0
def leafX (a : Sm) : List Int := 3 :: a
def nodeX (a b : Sm) : List Int := 4 :: (a ++ b)
def U8' (x : Sm) : Prop := ∀ y ∈ x, 0 ≤ y ∧ y ≤ 255
@[irreducible] def leafH (a : Sm) : Sm := shaB (leafX a)
@[irreducible] def nodeH (a b : Sm) : Sm := shaB (nodeX a b)
theorem leafH_eq (a : Sm) : leafH a = shaB (leafX a) := by unfold leafH; rfl
theorem nodeH_eq (a b : Sm) : nodeH a b = shaB (nodeX a b) := by unfold nodeH; rfl
theorem leafH_len (a : Sm) : (leafH a).length = 32 := by rw [leafH_eq]; exact shaB_len _
theorem nodeH_len (a b : Sm) : (nodeH a b).length = 32 := by rw [nodeH_eq]; exact shaB_len _
theorem leafH_u8 (a : Sm) : U8' (leafH a) := by rw [leafH_eq]; exact shaB_u8 _
theorem nodeH_u8 (a b : Sm) : U8' (nodeH a b) := by rw [nodeH_eq]; exact shaB_u8 _
theorem Z_len : Z.length = 32 := rfl
theorem Z_u8 : U8' Z := fun y hy => by have := List.eq_of_mem_replicate hy; omega
def hlf (n : Nat) : Nat := 2 ^ Nat.log2 (n - 1)
theorem hlf_pos (n : Nat) : 0 < hlf n := Nat.pow_pos (by decide)
theorem hlf_lt {n : Nat} (h : 2 ≤ n) : hlf n < n := by
  have := Nat.log2_self_le (show n - 1 ≠ 0 by omega)
  unfold hlf
  omega
def rootT (l : List Sm) : Sm :=
  if h : l.length = 0 then Z else if h1 : l.length = 1 then leafH (l.headD Z)
  else nodeH (rootT (l.take (hlf l.length))) (rootT (l.drop (hlf l.length)))
termination_by l.length
decreasing_by
  · have := hlf_lt (n := l.length) (by omega); rw [List.length_take]; omega
  · have := hlf_pos l.length; rw [List.length_drop]; omega
theorem rootT_nil : rootT [] = Z := by rw [rootT]; rfl
theorem rootT_one (a : Sm) : rootT [a] = leafH a := by rw [rootT]; simp
theorem rootT_two {l : List Sm} (h : 2 ≤ l.length) : rootT l = nodeH (rootT (l.take (hlf l.length))) (rootT (l.drop (hlf l.length))) := by
  rw [rootT, dif_neg (by omega), dif_neg (by omega)]
theorem rootT_len (l : List Sm) : (rootT l).length = 32 := by
  rw [rootT]
  split
  · exact Z_len
  · split
    · exact leafH_len _
    · exact nodeH_len _ _
theorem rootT_u8 (l : List Sm) : U8' (rootT l) := by
  rw [rootT]
  split
  · exact Z_u8
  · split
    · exact leafH_u8 _
    · exact nodeH_u8 _ _
/-- A leaf's way. -/
def pathT (l : List Sm) (i : Nat) : List Sm :=
  if h : l.length ≤ 1 then []
  else if i < hlf l.length then pathT (l.take (hlf l.length)) i ++ [rootT (l.drop (hlf l.length))]
  else pathT (l.drop (hlf l.length)) (i - hlf l.length) ++ [rootT (l.take (hlf l.length))]
termination_by l.length
decreasing_by
  · have := hlf_lt (n := l.length) (by omega); rw [List.length_take]; omega
  · have := hlf_pos l.length; rw [List.length_drop]; omega
/-- What comes of a leaf, along a path (the last one first): the sum, whether it is as long, and what was summed. -/
def upN (leaf : Sm) : Nat → Nat → List Sm → Sm × Bool × List (List Int)
  | i, n, [] => if n = 1 then (leafH leaf, true, [leafX leaf]) else (Z, false, [])
  | i, n, x :: r => if n = 1 then (leafH leaf, false, [leafX leaf])
    else if i < hlf n then let u := upN leaf i (hlf n) r; (nodeH u.1 x, u.2.1, u.2.2 ++ [nodeX u.1 x])
    else let u := upN leaf (i - hlf n) (n - hlf n) r; (nodeH x u.1, u.2.1, u.2.2 ++ [nodeX x u.1])
theorem upN_len (leaf : Sm) (i n : Nat) (r : List Sm) : (upN leaf i n r).1.length = 32 := by
  cases r with
  | nil =>
    unfold upN
    split
    · exact leafH_len _
    · exact Z_len
  | cons x r =>
    unfold upN
    split
    · exact leafH_len _
    · split
      · exact nodeH_len _ _
      · exact nodeH_len _ _
theorem upN_u8 (leaf : Sm) (i n : Nat) (r : List Sm) : U8' (upN leaf i n r).1 := by
  cases r with
  | nil =>
    unfold upN
    split
    · exact leafH_u8 _
    · exact Z_u8
  | cons x r =>
    unfold upN
    split
    · exact leafH_u8 _
    · split
      · exact nodeH_u8 _ _
      · exact nodeH_u8 _ _
theorem path_up (l : List Sm) (i : Nat) (h : i < l.length) : (upN (l.getD i Z) i l.length (pathT l i).reverse).1 = rootT l ∧ (upN (l.getD i Z) i l.length (pathT l i).reverse).2.1 = true := by
  generalize hn : l.length = n
  induction n using Nat.strongRecOn generalizing l i with
  | ind n ih =>
    subst hn
    rw [pathT]
    split
    · next h1 =>
      obtain ⟨a, rfl⟩ := List.length_eq_one_iff.1 (show l.length = 1 by omega)
      have : i = 0 := by simp at h; omega
      subst this
      rw [rootT_one]
      exact ⟨rfl, rfl⟩
    · next h1 =>
      have hb := hlf_lt (n := l.length) (by omega)
      have hp := hlf_pos l.length
      rw [rootT_two (l := l) (by omega)]
      split
      · next hi =>
        have hl : (l.take (hlf l.length)).length = hlf l.length := by rw [List.length_take]; omega
        have := ih _ (by omega) (l.take (hlf l.length)) i (by omega) hl
        have hg : (l.take (hlf l.length)).getD i Z = l.getD i Z := by
          rw [List.getD_eq_getElem?_getD, List.getD_eq_getElem?_getD, List.getElem?_take, if_pos hi]
        rw [hg] at this
        rw [List.reverse_append, List.reverse_singleton, List.singleton_append, upN, if_neg (by omega), if_pos hi]
        exact ⟨by dsimp only; rw [this.1], this.2⟩
      · next hi =>
        have hl : (l.drop (hlf l.length)).length = l.length - hlf l.length := List.length_drop
        have := ih _ (by omega) (l.drop (hlf l.length)) (i - hlf l.length) (by omega) hl
        have hg : (l.drop (hlf l.length)).getD (i - hlf l.length) Z = l.getD i Z := by
          rw [List.getD_eq_getElem?_getD, List.getD_eq_getElem?_getD, List.getElem?_drop]
          congr 2
          omega
        rw [hg] at this
        rw [List.reverse_append, List.reverse_singleton, List.singleton_append, upN, if_neg (by omega), if_neg hi]
        exact ⟨by dsimp only; rw [this.1], this.2⟩
/-- How many ones. -/
def ones (n : Nat) : Nat := if h : n = 0 then 0 else n % 2 + ones (n / 2)
def frontT (l : List Sm) : List Sm :=
  if h : l.length = 0 then [] else rootT (l.take (2 ^ Nat.log2 l.length)) :: frontT (l.drop (2 ^ Nat.log2 l.length))
termination_by l.length
decreasing_by
  have := Nat.pow_pos (n := Nat.log2 l.length) (show 0 < 2 by decide); rw [List.length_drop]; omega
/-- A frontier, with a sum more. -/
def growT (f : List Sm) (n : Nat) (d : Sm) : List Sm :=
  if h : n % 2 = 1 then growT f.dropLast (n / 2) (nodeH (f.getLastD Z) d) else f ++ [d]
termination_by n
/-- All that is summed for a root. -/
def textsT (l : List Sm) : List (List Int) :=
  if h : l.length = 0 then [] else if h1 : l.length = 1 then [leafX (l.headD Z)]
  else textsT (l.take (hlf l.length)) ++ textsT (l.drop (hlf l.length)) ++ [nodeX (rootT (l.take (hlf l.length))) (rootT (l.drop (hlf l.length)))]
termination_by l.length
decreasing_by
  · have := hlf_lt (n := l.length) (by omega); rw [List.length_take]; omega
  · have := hlf_pos l.length; rw [List.length_drop]; omega
/-- Two unlike texts of one sum. -/
def Met (a b : List (List Int)) : Prop := ∃ x ∈ a, ∃ y ∈ b, x ≠ y ∧ shaB x = shaB y
theorem Met.mono {a b a' b' : List (List Int)} (h : Met a b) (ha : ∀ x ∈ a, x ∈ a') (hb : ∀ x ∈ b, x ∈ b') : Met a' b' := by
  obtain ⟨x, hx, y, hy, h1⟩ := h
  exact ⟨x, ha x hx, y, hb y hy, h1⟩
theorem up_one (leaf : Sm) : ∀ (l : List Sm) (i : Nat) (r : List Sm), i < l.length → (∀ x ∈ r, x.length = 32) → (upN leaf i l.length r).2.1 = true → (upN leaf i l.length r).1 = rootT l →
    leaf = l.getD i Z ∨ Met (upN leaf i l.length r).2.2 (textsT l) := by
  intro l i r h hr ho hd
  generalize hn : l.length = n at *
  induction n using Nat.strongRecOn generalizing l i r with
  | ind n ih =>
    rw [textsT]
    by_cases h1 : n = 1
    · obtain ⟨a, rfl⟩ := List.length_eq_one_iff.1 (show l.length = 1 by omega)
      have hi : i = 0 := by omega
      subst hi h1
      cases r with
      | cons x r => rw [upN, if_pos rfl] at ho; cases ho
      | nil =>
        rw [upN, if_pos rfl] at hd ⊢
        rw [rootT_one] at hd
        dsimp only at hd
        rw [leafH_eq, leafH_eq] at hd
        by_cases he : leafX leaf = leafX a
        · injection he with _ he
          exact .inl he
        · refine .inr ⟨leafX leaf, by simp, leafX a, by simp, he, hd⟩
    · cases r with
      | nil => rw [upN, if_neg h1] at ho; cases ho
      | cons x r =>
        have hb := hlf_lt (n := n) (by omega)
        have hp := hlf_pos n
        have hx := hr x (by simp)
        have hr' : ∀ y ∈ r, y.length = 32 := fun y hy => hr y (by simp [hy])
        rw [rootT_two (l := l) (by omega), hn] at hd
        rw [dif_neg (by omega), dif_neg (by omega), hn]
        rw [upN, if_neg h1] at hd ho ⊢
        split
        · next hi =>
          dsimp only
          rw [if_pos hi] at hd ho
          dsimp only at hd
          rw [nodeH_eq, nodeH_eq] at hd
          have hl : (l.take (hlf n)).length = hlf n := by rw [List.length_take]; omega
          by_cases he : nodeX (upN leaf i (hlf n) r).1 x = nodeX (rootT (l.take (hlf n))) (rootT (l.drop (hlf n)))
          · injection he with _ he
            have he := List.append_inj_left he (by rw [upN_len, rootT_len])
            have := ih _ hb (l.take (hlf n)) i r hr' hl hi ho he
            have hg : (l.take (hlf n)).getD i Z = l.getD i Z := by
              rw [List.getD_eq_getElem?_getD, List.getD_eq_getElem?_getD, List.getElem?_take, if_pos hi]
            rw [hg] at this
            exact this.imp id (fun h => h.mono (fun y hy => List.mem_append_left _ hy) (fun y hy => List.mem_append_left _ (List.mem_append_left _ hy)))
          · exact .inr ⟨_, List.mem_append_right _ (List.mem_singleton.2 rfl), _, List.mem_append_right _ (List.mem_singleton.2 rfl), he, hd⟩
        · next hi =>
          dsimp only
          rw [if_neg hi] at hd ho
          dsimp only at hd
          rw [nodeH_eq, nodeH_eq] at hd
          have hl : (l.drop (hlf n)).length = n - hlf n := by rw [List.length_drop]; omega
          by_cases he : nodeX x (upN leaf (i - hlf n) (n - hlf n) r).1 = nodeX (rootT (l.take (hlf n))) (rootT (l.drop (hlf n)))
          · injection he with _ he
            have he := List.append_inj_right he (by rw [hx, rootT_len])
            have := ih _ (by omega) (l.drop (hlf n)) (i - hlf n) r hr' hl (by omega) ho he
            have hg : (l.drop (hlf n)).getD (i - hlf n) Z = l.getD i Z := by
              rw [List.getD_eq_getElem?_getD, List.getD_eq_getElem?_getD, List.getElem?_drop]
              congr 2
              omega
            rw [hg] at this
            exact this.imp id (fun h => h.mono (fun y hy => List.mem_append_left _ hy) (fun y hy => List.mem_append_left _ (List.mem_append_right _ hy)))
          · exact .inr ⟨_, List.mem_append_right _ (List.mem_singleton.2 rfl), _, List.mem_append_right _ (List.mem_singleton.2 rfl), he, hd⟩
end Go.Proofs.Ytbebkogkeepfoaa.Tree
/- How many ones a number has, by fields (as math/bits.OnesCount64 sums them), for numbers below 2^24. -/
namespace Go.Proofs.Ytbebkogkeepfoaa.Tree
def q1 (b : Nat) : Nat := (b / 2 &&& 85) + (b &&& 85)
def q2 (b : Nat) : Nat := (b / 4 &&& 51) + (b &&& 51)
end Go.Proofs.Ytbebkogkeepfoaa.Tree
/- math/bits.OnesCount64, OnesCount walked, for numbers below 2^24. -/
namespace Go.Proofs.Ytbebkogkeepfoaa.Tree
set_option linter.unusedVariables false
set_option linter.unusedSimpArgs false
open Go.RowKit Go.Proofs.YtbebkogkeepfoaaW.PrintWords Go.Proofs.YtbebkogkeepfoaaW.PrintLast Go.Proofs.YtbebkogkeepfoaaW.PrintMore
end Go.Proofs.Ytbebkogkeepfoaa.Tree
