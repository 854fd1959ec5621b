/- Own and printed texts, laid together. -/
import Derived.Test.YtfpkgdenohcglaaProg
import Derived.Below
import Derived.Deep.Draws
import Derived.Deep.AppendLies
import Derived.Maps.AppendAt
import Derived.OwnWalk
import Derived.Laws.BytesArg
import Derived.Laws.MakeOwn
import Derived.Laws.OwnMore
import Derived.Deep.OwnRows
import Derived.Tactics
import Derived.Lib.ConvBytes
import Derived.Laws.Slices
import Derived.WalkKit
import Derived.KernelRfl
import Derived.RowKit3
import Derived.Deep.LoopGhost
import Derived.Deep.QuietTactic
import Derived.BigQuiet
import Derived.WideLaws
import Derived.Deep.DeepCutAuto
import Derived.Deep.CutBlock
import Derived.Deep.RegionHeld3
import Derived.Laws.Rows
import Derived.Lib.AppendStr
import Derived.ArgAppend
import Derived.Laws.IdiomCopy
import Derived.OrdersHeld
import Derived.Laws.BitsLemmas
import Derived.RowKit
import Derived.Test.YtfpkgdenohcglaaCrMA
import Derived.Lib.SlBytesConst
import Derived.StillTailTactics
import Derived.Laws.CopyOwn
import Derived.Great.BuildSlice
import Derived.Deep.WholeRow
import Derived.Deep.DeepMust
import Derived.Deep.RegionLaw
import Derived.ChangeKeysEq
import Derived.Deep.RegionWith
import Derived.ProofKit
import Derived.Deep.Slices
/- What every text of this claim stands on: the imports, and a few laws on kinds. -/
namespace Go.Proofs.Ytfpkgdenohcglaa.Base
open Go.RowKit Go.Proofs.YtfpkgdenohcglaaW.PrintWords Go.Proofs.YtfpkgdenohcglaaW.PrintLast Go.Proofs.YtfpkgdenohcglaaW.PrintMore

/-- Bytes that are read stay so where another block alone is written. -/
theorem reads_keep {w w1 : World} {g : Nat} {k : IntKind} {A : Option Addr} {xs : List Int} (h : Kd.C (Kd.int k) w A xs.length xs) (hk : KeepBut w w1 g none) (hne : ∀ a, A = some a → 0 < xs.length → a.block ≠ g) : Kd.C (Kd.int k) w1 A xs.length xs := by
  have h' := Kd.reads_of_C (d := (0 : Int)) h
  refine Kd.C_of_reads (d := (0 : Int)) ⟨h'.1, h'.2.1, fun h0 => ?_⟩
  obtain ⟨ad, e, hc⟩ := h'.2.2 h0
  refine ⟨ad, e, fun j hj => keep_cell hk (hc j hj) ?_⟩
  rw [show (ad.add j).block = ad.block from by unfold Addr.add; split <;> rfl]
  exact hne ad e h0
theorem keep_set (w : World) (g j : Nat) (v : Value) : KeepBut w (w.setCell ⟨g, j, none⟩ v) g none := (KeepBut.refl w g none).set_ j v
/-- Numbers do not lie in a block whose cells are none. -/
theorem reads_ne {w : World} {g T : Nat} {cs : Array Value} {k : IntKind} {A : Option Addr} {xs : List Int} (hb : w.heap[g]? = some (.cells cs T (0, 0))) (hcs : ∀ i : Nat, ∀ v, cs[i]? = some v → ∀ n, v ≠ .int k n) (h : Kd.C (Kd.int k) w A xs.length xs) : ∀ a, A = some a → 0 < xs.length → a.block ≠ g := by
  intro a ha h0 hg
  have h' := Kd.reads_of_C (d := (0 : Int)) h
  obtain ⟨ad, e, hc⟩ := h'.2.2 h0
  rw [ha] at e
  injection e with e
  subst e
  have h1 := hc 0 h0
  have e0 : (a.add 0).block = g := by rw [show (a.add 0).block = a.block from by unfold Addr.add; split <;> rfl]; exact hg
  unfold World.cell? at h1
  rw [e0, hb] at h1
  dsimp only at h1
  split at h1
  · cases h1
  · exact hcs _ _ h1 _ rfl
/-- Bytes that are read. -/
abbrev Rb (w : World) (A : Option Addr) (xs : List Int) : Prop := Kd.C (Kd.int .u8) w A xs.length xs
/-- Bytes of the call's own. -/
abbrev Ob (w : World) (base : Nat) (v : Value) (xs : List Int) : Prop := Kd.R (Kd.int .u8) 5 w base (fun _ => True) v xs
theorem info_u8 : (Try.prog.info? 5).map (fun i => (i.zero, i.size, i.bytes)) = some (some (.int .u8 0), 1, 1) := by kernel_rfl
theorem rd_nat' (xs : List Int) (i : Nat) (h : i < xs.length) : rd xs (i : Int) = xs[i] := by simp [rd, List.getD_eq_getElem?_getD, List.getElem?_eq_getElem h]
/-- A row of bytes of the call's own, read. -/
theorem Ob.reads {w : World} {base : Nat} {v : Value} {xs : List Int} (h : Ob w base v xs) : ∃ A c, v = .slice A xs.length c ∧ xs.length ≤ c ∧ Rb w A xs := Kd.R_reads h
theorem Rb.at0 {w : World} {A : Option Addr} {x : Int} {xs : List Int} (h : Rb w A (x :: xs)) : ∃ ad, A = some ad ∧ w.cell? ad = some (.int .u8 x) := by
  obtain ⟨ad, e, hc⟩ := Kd.at_int h 0 (by omega) (by simp)
  exact ⟨ad, e, by simpa [rd, Addr.add] using hc⟩
/-- Bytes that are written out. -/
theorem lit_bytes {P : Program} {ops : Array Oper} {rest : List Oper} {o : Oper} {a : Act} {Q : Exit → Act → World → Prop} {W : World} {N : Tmp} (hgd : o.guard = none) (hd : o.dst = some N) (xs : List Int) (inner : List Value) (hi : inner = nums .u8 xs)
    (hrun : (execOp a.eval o).run P W = .ok (.value (.slice (some ⟨W.heap.size, 0, none⟩) xs.length xs.length)) (W.alloc (.cells inner.toArray 5))) (hm : xs.length ≤ 9223372036854775807)
    (h : ∀ v1 w1, Ob w1 W.heap.size v1 xs → Below W.heap.size W w1 → wpList P ops Q rest (a.put o.dst v1) w1) : wpList P ops Q (o :: rest) a W := by
  subst hi
  exact Kd.R_lit (Kd.int .u8) W.heap.size 5 hgd hd (okp := fun _ => True) hrun (Kd.reps_scalar (enc := Value.int .u8) xs) (fun _ hk => hk) trivial (Below.refl _ _) (Nat.le_refl _) hm (fun v1 w1 h1 h2 _ _ => h v1 w1 h1 h2)
/-- Rows of bytes that are read. -/
abbrev Rr (w : World) (A : Option Addr) (xs : List (List Int)) : Prop := Kd.C (Kd.slice 5 (Kd.int .u8)) w A xs.length xs
/-- A slice of rows that is written out. -/
theorem lit_rows {P : Program} {ops : Array Oper} {rest : List Oper} {o : Oper} {a : Act} {Q : Exit → Act → World → Prop} {W : World} {N : Tmp} {e : TypeId} (hgd : o.guard = none) (_hd : o.dst = some N) (xs : List (List Int)) (inner : List Value)
    (hi : inner.length = xs.length ∧ ∀ (j : Nat) (l : List Int), xs[j]? = some l → ∃ A c, inner[j]? = some (Value.slice A l.length c) ∧ l.length ≤ c ∧ Rb W A l)
    (hrun : (execOp a.eval o).run P W = .ok (.value (.slice (some ⟨W.heap.size, 0, none⟩) xs.length xs.length)) (W.alloc (.cells inner.toArray e))) (hm : xs.length ≤ 9223372036854775807)
    (h : ∀ A1 w1, Rr w1 A1 xs → Below W.heap.size W w1 → wpList P ops Q rest (a.put o.dst (.slice A1 xs.length xs.length)) w1) : wpList P ops Q (o :: rest) a W := by
  refine Kd.event_run hgd hrun (h _ _ ⟨rfl, hm, fun _ => ⟨_, rfl, fun j l hj => ?_⟩⟩ ((Below.refl _ W).alloc (Nat.le_refl _) _))
  obtain ⟨A, c, h1, h2, h3⟩ := hi.2 j l hj
  refine ⟨[.slice A l.length c], rfl, ⟨A, c, rfl, h2, Kd.C_alloc h3 _⟩, fun i u hu => ?_⟩
  have hi0 : i = 0 := by
    have := (List.getElem?_eq_some_iff.1 hu).1
    simp at this
    exact this
  subst hi0
  rw [show j * (Kd.slice 5 (Kd.int .u8)).sz + 0 = j from by show j * 1 + 0 = j; omega, add_plain]
  rw [blk_cell (blk_new W (.cells inner.toArray e))]
  rw [show inner.toArray[j]? = inner[j]? from by simp, h1]
  exact hu
/-- Two rows, three rows: what 'lit_rows' asks of them. -/
theorem rows2 {W : World} {a b : List Int} {A B : Option Addr} {ca cb : Nat} (ha : Rb W A a) (hca : a.length ≤ ca) (hb : Rb W B b) (hcb : b.length ≤ cb) :
    [Value.slice A a.length ca, .slice B b.length cb].length = [a, b].length ∧ ∀ (j : Nat) (l : List Int), [a, b][j]? = some l → ∃ A' c, [Value.slice A a.length ca, .slice B b.length cb][j]? = some (Value.slice A' l.length c) ∧ l.length ≤ c ∧ Rb W A' l := by
  refine ⟨rfl, fun j l hj => ?_⟩
  match j, hj with
  | 0, hj => cases hj; exact ⟨_, _, rfl, hca, ha⟩
  | 1, hj => cases hj; exact ⟨_, _, rfl, hcb, hb⟩
/-- A take of bytes that are read. -/
theorem Rb.take {w : World} {A : Option Addr} {xs : List Int} (h : Rb w A xs) (n : Nat) (hn : n ≤ xs.length) : Rb w A (xs.take n) := by
  have h5 := Kd.C_of_reads (d := (0 : Int)) (h1 := fun _ => rfl) (ReadsInt.take_ (Kd.reads_of_C (d := (0 : Int)) h) n hn)
  show Kd.C _ w A (xs.take n).length (xs.take n)
  rw [show (xs.take n).length = n from by rw [List.length_take]; omega]
  exact h5
theorem Rb.len {w : World} {A : Option Addr} {xs : List Int} (h : Rb w A xs) : xs.length ≤ 9223372036854775807 := (Kd.reads_of_C (d := (0 : Int)) h).2.1
end Go.Proofs.Ytfpkgdenohcglaa.Base
/- Small plain laws on rounds, numbers and lists. -/
namespace Go.Proofs.Ytfpkgdenohcglaa.Aid
open Go.RowKit Go.Proofs.YtfpkgdenohcglaaW.PrintWords Go.Proofs.YtfpkgdenohcglaaW.PrintLast

theorem pos {α : Type} {c : Prop} [Decidable c] {a b : Nat → Option α} {r : α} (h : c) (e : Ev a r) : Ev (fun k => if c then a k else b k) r := by
  simpa only [if_pos h] using e
theorem neg {α : Type} {c : Prop} [Decidable c] {a b : Nat → Option α} {r : α} (h : ¬ c) (e : Ev b r) : Ev (fun k => if c then a k else b k) r := by
  simpa only [if_neg h] using e
theorem now {α : Type} {r s : α} (h : r = s) : Ev (fun _ => some r) s := h ▸ Ev.now r
theorem evBind {α β : Type} {g : Nat → Option α} {f : Nat → α → Option β} {a : α} {r : β} (h : Ev g a) (k : Ev (fun n => f n a) r) : Ev (fun n => (g n).bind (f n)) r := h.bind k
theorem bindSome {α β : Type} {o : Option α} {f : Nat → α → Option β} {a : α} {r : β} (h : o = some a) (k : Ev (fun n => f n a) r) : Ev (fun n => o.bind (f n)) r := by
  subst h; exact k
theorem w64 {x : Int} (h0 : -9223372036854775808 ≤ x) (h1 : x ≤ 9223372036854775807) : wrap64 x = x := by unfold wrap64; omega
theorem u64 {x : Int} (h0 : 0 ≤ x) (h1 : x ≤ 18446744073709551615) : IntKind.u64.wrap x = x := IntWalk.u64_in x ⟨h0, h1⟩
theorem rd_nat (xs : List Int) (i : Nat) (h : i < xs.length) : rd xs (i : Int) = xs[i] := by
  simp [rd, List.getD_eq_getElem?_getD, List.getElem?_eq_getElem h]
theorem drop_cons {α : Type} (xs : List α) (i : Nat) (h : i < xs.length) : xs.drop i = xs[i] :: xs.drop (i + 1) := List.drop_eq_getElem_cons h
theorem inc {i n : Nat} (h : i < n) (hn : n ≤ 4611686018427387904) : wrap64 ((i : Int) + 1) = ((i + 1 : Nat) : Int) := by rw [w64 (by omega) (by omega)]; rfl
theorem take_snoc {α : Type} (xs : List α) (i : Nat) (h : i < xs.length) : xs.take (i + 1) = xs.take i ++ [xs[i]] := List.take_succ_eq_append_getElem h
end Go.Proofs.Ytfpkgdenohcglaa.Aid
/- SHA-256 in plain words: on lists of numbers. -/
namespace Go.Proofs.Ytfpkgdenohcglaa.ShaPlain
open Go.RowKit Go.Proofs.Ytfpkgdenohcglaa.Base Go.Proofs.YtfpkgdenohcglaaW.PrintWords

def xo (a b : Int) : Int := bits .xor .u32 a b
def an (a b : Int) : Int := bits .and .u32 a b
def rot (p q x : Int) : Int := bits .or .u32 (x * q % 4294967296) (x / p)
theorem or_comm (a b : Int) : bits .or .u32 a b = bits .or .u32 b a := by
  unfold bits
  simp only [BitVec.or_comm]
def m32 (x : Int) : Int := x % 4294967296
def word4 (a b c d : Int) : Int := bits .or .u32 (bits .or .u32 (bits .or .u32 (a * 16777216 % 4294967296) (b * 65536)) (c * 256)) d
def low (x : Int) : Int := xo (xo (rot 128 33554432 x) (rot 262144 16384 x)) (x / 8)
def high (x : Int) : Int := xo (xo (rot 131072 32768 x) (rot 524288 8192 x)) (x / 1024)
/-- The t'th word, out of the block and the words ahead of it. -/
def next (b ws : List Int) (t : Nat) : Int :=
  if t < 16 then word4 (b.getD (4 * t) 0) (b.getD (4 * t + 1) 0) (b.getD (4 * t + 2) 0) (b.getD (4 * t + 3) 0)
  else m32 (ws.getD (t - 16) 0 + low (ws.getD (t - 15) 0) + ws.getD (t - 7) 0 + high (ws.getD (t - 2) 0))
def fill (b : List Int) : Nat → List Int
  | 0 => List.replicate 64 0
  | t + 1 => (fill b t).set t (next b (fill b t) t)
def keys : List Int := [
  0x428a2f98, 0x71374491, 0xb5c0fbcf, 0xe9b5dba5, 0x3956c25b, 0x59f111f1, 0x923f82a4, 0xab1c5ed5,
  0xd807aa98, 0x12835b01, 0x243185be, 0x550c7dc3, 0x72be5d74, 0x80deb1fe, 0x9bdc06a7, 0xc19bf174,
  0xe49b69c1, 0xefbe4786, 0x0fc19dc6, 0x240ca1cc, 0x2de92c6f, 0x4a7484aa, 0x5cb0a9dc, 0x76f988da,
  0x983e5152, 0xa831c66d, 0xb00327c8, 0xbf597fc7, 0xc6e00bf3, 0xd5a79147, 0x06ca6351, 0x14292967,
  0x27b70a85, 0x2e1b2138, 0x4d2c6dfc, 0x53380d13, 0x650a7354, 0x766a0abb, 0x81c2c92e, 0x92722c85,
  0xa2bfe8a1, 0xa81a664b, 0xc24b8b70, 0xc76c51a3, 0xd192e819, 0xd6990624, 0xf40e3585, 0x106aa070,
  0x19a4c116, 0x1e376c08, 0x2748774c, 0x34b0bcb5, 0x391c0cb3, 0x4ed8aa4a, 0x5b9cca4f, 0x682e6ff3,
  0x748f82ee, 0x78a5636f, 0x84c87814, 0x8cc70208, 0x90befffa, 0xa4506ceb, 0xbef9a3f7, 0xc67178f2]
def start : List Int := [0x6a09e667, 0xbb67ae85, 0x3c6ef372, 0xa54ff53a, 0x510e527f, 0x9b05688c, 0x1f83d9ab, 0x5be0cd19]
def choice (e f g : Int) : Int := xo (an e f) (an (xo IntKind.u32.max e) g)
def most (a b c : Int) : Int := xo (xo (an a b) (an a c)) (an b c)
def sigE (e : Int) : Int := xo (xo (rot 64 67108864 e) (rot 2048 2097152 e)) (rot 33554432 128 e)
def sigA (a : Int) : Int := xo (xo (rot 4 1073741824 a) (rot 8192 524288 a)) (rot 4194304 1024 a)
def one (v : List Int) (k x : Int) : Int := m32 (v.getD 7 0 + sigE (v.getD 4 0) + choice (v.getD 4 0) (v.getD 5 0) (v.getD 6 0) + k + x)
def two (v : List Int) : Int := m32 (sigA (v.getD 0 0) + most (v.getD 0 0) (v.getD 1 0) (v.getD 2 0))
def step (v : List Int) (k x : Int) : List Int :=
  [m32 (one v k x + two v), v.getD 0 0, v.getD 1 0, v.getD 2 0, m32 (v.getD 3 0 + one v k x), v.getD 4 0, v.getD 5 0, v.getD 6 0]
def rounds (s ws : List Int) : Nat → List Int
  | 0 => s
  | t + 1 => step (rounds s ws t) (keys.getD t 0) (ws.getD t 0)
/-- The state behind a block. -/
def press (s b : List Int) : List Int := List.zipWith (fun x y => m32 (x + y)) s (rounds s (fill b 64) 64)

def U32 (l : List Int) : Prop := ∀ x ∈ l, 0 ≤ x ∧ x ≤ 4294967295
theorem U32.at {l : List Int} (h : U32 l) (i : Nat) : 0 ≤ l.getD i 0 ∧ l.getD i 0 ≤ 4294967295 := by
  rw [List.getD_eq_getElem?_getD]
  by_cases hi : i < l.length
  · rw [List.getElem?_eq_getElem hi]; exact h _ (List.getElem_mem hi)
  · rw [List.getElem?_eq_none (by omega)]; simp
theorem bits_range (op : BinOp) (a b : Int) : 0 ≤ bits op .u32 a b ∧ bits op .u32 a b ≤ 4294967295 := by
  unfold bits
  split <;> (rw [IntKind.wrap_u32]; omega)
theorem m32_range (x : Int) : 0 ≤ m32 x ∧ m32 x ≤ 4294967295 := by unfold m32; omega
theorem fill_len (b : List Int) : ∀ t, (fill b t).length = 64
  | 0 => by simp [fill]
  | t + 1 => by simp [fill, fill_len b t]
theorem next_range (b ws : List Int) (t : Nat) : 0 ≤ next b ws t ∧ next b ws t ≤ 4294967295 := by
  unfold next
  split
  · exact bits_range _ _ _
  · exact m32_range _
theorem U32.set {l : List Int} (h : U32 l) (i : Nat) {x : Int} (hx : 0 ≤ x ∧ x ≤ 4294967295) : U32 (l.set i x) := fun y hy => (List.mem_or_eq_of_mem_set hy).elim (h y) (fun e => e ▸ hx)
theorem fill_u32 (b : List Int) : ∀ t, U32 (fill b t)
  | 0 => fun x hx => by rw [fill] at hx; rw [List.eq_of_mem_replicate hx]; omega
  | t + 1 => (fill_u32 b t).set t (next_range _ _ _)
theorem step_u32 {v : List Int} (h : U32 v) (k x : Int) : U32 (step v k x) := by
  intro y hy
  simp only [step, List.mem_cons, List.not_mem_nil, or_false] at hy
  rcases hy with rfl | rfl | rfl | rfl | rfl | rfl | rfl | rfl
  all_goals first | exact m32_range _ | exact h.at _
theorem rounds_len {s : List Int} (hs : s.length = 8) (ws : List Int) : ∀ t, (rounds s ws t).length = 8
  | 0 => hs
  | _ + 1 => rfl
theorem rounds_u32 {s : List Int} (hs : U32 s) (ws : List Int) : ∀ t, U32 (rounds s ws t)
  | 0 => hs
  | t + 1 => step_u32 (rounds_u32 hs ws t) _ _
theorem press_len {s : List Int} (hs : s.length = 8) (b : List Int) : (press s b).length = 8 := by simp [press, hs, rounds_len hs]
theorem press_u32 (s b : List Int) : U32 (press s b) := by
  intro x hx
  unfold press at hx
  obtain ⟨i, hi, rfl⟩ := List.mem_iff_getElem.1 hx
  rw [List.getElem_zipWith]
  exact m32_range _
theorem start_u32 : U32 start := by unfold U32 start; decide
end Go.Proofs.Ytfpkgdenohcglaa.ShaPlain
/- Words turned to the right: the walks. -/
namespace Go.Proofs.Ytfpkgdenohcglaa.Sha
set_option linter.unusedVariables false
open Go.RowKit Go.Proofs.Ytfpkgdenohcglaa.Base Go.Proofs.Ytfpkgdenohcglaa.ShaPlain Go.Proofs.YtfpkgdenohcglaaW.PrintWords Go.Proofs.YtfpkgdenohcglaaW.PrintLast Go.Proofs.YtfpkgdenohcglaaW.PrintMore

set_option maxHeartbeats 800000 in
theorem rot_2 (x : Int) (w : World) (h0 : 0 ≤ x) (h1 : x ≤ 4294967295) : Calls Try.prog 118 #[.int .u32 x, .int .i64 (-2)] w fun e w' => e = .returned (.int .u32 (rot 4 1073741824 x)) ∧ w = w' := by
  have e : bits BinOp.and IntKind.u64 (IntKind.u64.wrap (-2)) 31 = 30 := by decide +kernel
  go_enter Try.func118, Try.ntmps118
  go_wp2
  go_ret
  exact ⟨rfl, rfl⟩
set_option maxHeartbeats 800000 in
theorem right_2 (x : Int) (w : World) (h0 : 0 ≤ x) (h1 : x ≤ 4294967295) : Calls Try.prog 117 #[.int .u32 x, .int .i64 2] w fun e w' => e = .returned (.int .u32 (rot 4 1073741824 x)) ∧ w = w' := by
  go_enter Try.func117, Try.ntmps117
  go_wp2_with (go_at_call 118; refine (rot_2 x _ h0 h1).mono ?_; rintro e w' ⟨rfl, rfl⟩)
  go_ret
  exact ⟨rfl, rfl⟩
set_option maxHeartbeats 800000 in
theorem turn_2 (x : Int) (w : World) (h0 : 0 ≤ x) (h1 : x ≤ 4294967295) : Calls Try.prog 99 #[.int .u32 x, .int .u64 2] w fun e w' => e = .returned (.int .u32 (rot 4 1073741824 x)) ∧ w = w' := by
  go_enter Try.func99, Try.ntmps99
  go_wp2
  go_ret
  exact ⟨congrArg (fun z => Ending.returned (Value.int .u32 z)) (or_comm _ _), rfl⟩

set_option maxHeartbeats 800000 in
theorem rot_6 (x : Int) (w : World) (h0 : 0 ≤ x) (h1 : x ≤ 4294967295) : Calls Try.prog 118 #[.int .u32 x, .int .i64 (-6)] w fun e w' => e = .returned (.int .u32 (rot 64 67108864 x)) ∧ w = w' := by
  have e : bits BinOp.and IntKind.u64 (IntKind.u64.wrap (-6)) 31 = 26 := by decide +kernel
  go_enter Try.func118, Try.ntmps118
  go_wp2
  go_ret
  exact ⟨rfl, rfl⟩
set_option maxHeartbeats 800000 in
theorem right_6 (x : Int) (w : World) (h0 : 0 ≤ x) (h1 : x ≤ 4294967295) : Calls Try.prog 117 #[.int .u32 x, .int .i64 6] w fun e w' => e = .returned (.int .u32 (rot 64 67108864 x)) ∧ w = w' := by
  go_enter Try.func117, Try.ntmps117
  go_wp2_with (go_at_call 118; refine (rot_6 x _ h0 h1).mono ?_; rintro e w' ⟨rfl, rfl⟩)
  go_ret
  exact ⟨rfl, rfl⟩
theorem rightq_6 (x : Int) (w : World) (m : Nat) (h : 0 ≤ x ∧ x ≤ 4294967295) : Calls Try.prog 117 #[.int .u32 x, .int .i64 6] (w.drewN m) fun e w'' => e = .returned (.int .u32 (rot 64 67108864 x)) ∧ ∃ m', w'' = w.drewN m' :=
  (right_6 x _ h.1 h.2).mono fun _ _ ⟨he, hw⟩ => ⟨he, m, hw.symm⟩
set_option maxHeartbeats 800000 in
theorem turn_6 (x : Int) (w : World) (h0 : 0 ≤ x) (h1 : x ≤ 4294967295) : Calls Try.prog 99 #[.int .u32 x, .int .u64 6] w fun e w' => e = .returned (.int .u32 (rot 64 67108864 x)) ∧ w = w' := by
  go_enter Try.func99, Try.ntmps99
  go_wp2
  go_ret
  exact ⟨congrArg (fun z => Ending.returned (Value.int .u32 z)) (or_comm _ _), rfl⟩

set_option maxHeartbeats 800000 in
theorem rot_7 (x : Int) (w : World) (h0 : 0 ≤ x) (h1 : x ≤ 4294967295) : Calls Try.prog 118 #[.int .u32 x, .int .i64 (-7)] w fun e w' => e = .returned (.int .u32 (rot 128 33554432 x)) ∧ w = w' := by
  have e : bits BinOp.and IntKind.u64 (IntKind.u64.wrap (-7)) 31 = 25 := by decide +kernel
  go_enter Try.func118, Try.ntmps118
  go_wp2
  go_ret
  exact ⟨rfl, rfl⟩
set_option maxHeartbeats 800000 in
theorem right_7 (x : Int) (w : World) (h0 : 0 ≤ x) (h1 : x ≤ 4294967295) : Calls Try.prog 117 #[.int .u32 x, .int .i64 7] w fun e w' => e = .returned (.int .u32 (rot 128 33554432 x)) ∧ w = w' := by
  go_enter Try.func117, Try.ntmps117
  go_wp2_with (go_at_call 118; refine (rot_7 x _ h0 h1).mono ?_; rintro e w' ⟨rfl, rfl⟩)
  go_ret
  exact ⟨rfl, rfl⟩
set_option maxHeartbeats 800000 in
theorem turn_7 (x : Int) (w : World) (h0 : 0 ≤ x) (h1 : x ≤ 4294967295) : Calls Try.prog 99 #[.int .u32 x, .int .u64 7] w fun e w' => e = .returned (.int .u32 (rot 128 33554432 x)) ∧ w = w' := by
  go_enter Try.func99, Try.ntmps99
  go_wp2
  go_ret
  exact ⟨congrArg (fun z => Ending.returned (Value.int .u32 z)) (or_comm _ _), rfl⟩

set_option maxHeartbeats 800000 in
theorem rot_11 (x : Int) (w : World) (h0 : 0 ≤ x) (h1 : x ≤ 4294967295) : Calls Try.prog 118 #[.int .u32 x, .int .i64 (-11)] w fun e w' => e = .returned (.int .u32 (rot 2048 2097152 x)) ∧ w = w' := by
  have e : bits BinOp.and IntKind.u64 (IntKind.u64.wrap (-11)) 31 = 21 := by decide +kernel
  go_enter Try.func118, Try.ntmps118
  go_wp2
  go_ret
  exact ⟨rfl, rfl⟩
set_option maxHeartbeats 800000 in
theorem right_11 (x : Int) (w : World) (h0 : 0 ≤ x) (h1 : x ≤ 4294967295) : Calls Try.prog 117 #[.int .u32 x, .int .i64 11] w fun e w' => e = .returned (.int .u32 (rot 2048 2097152 x)) ∧ w = w' := by
  go_enter Try.func117, Try.ntmps117
  go_wp2_with (go_at_call 118; refine (rot_11 x _ h0 h1).mono ?_; rintro e w' ⟨rfl, rfl⟩)
  go_ret
  exact ⟨rfl, rfl⟩
theorem rightq_11 (x : Int) (w : World) (m : Nat) (h : 0 ≤ x ∧ x ≤ 4294967295) : Calls Try.prog 117 #[.int .u32 x, .int .i64 11] (w.drewN m) fun e w'' => e = .returned (.int .u32 (rot 2048 2097152 x)) ∧ ∃ m', w'' = w.drewN m' :=
  (right_11 x _ h.1 h.2).mono fun _ _ ⟨he, hw⟩ => ⟨he, m, hw.symm⟩
set_option maxHeartbeats 800000 in
theorem turn_11 (x : Int) (w : World) (h0 : 0 ≤ x) (h1 : x ≤ 4294967295) : Calls Try.prog 99 #[.int .u32 x, .int .u64 11] w fun e w' => e = .returned (.int .u32 (rot 2048 2097152 x)) ∧ w = w' := by
  go_enter Try.func99, Try.ntmps99
  go_wp2
  go_ret
  exact ⟨congrArg (fun z => Ending.returned (Value.int .u32 z)) (or_comm _ _), rfl⟩

set_option maxHeartbeats 800000 in
theorem rot_13 (x : Int) (w : World) (h0 : 0 ≤ x) (h1 : x ≤ 4294967295) : Calls Try.prog 118 #[.int .u32 x, .int .i64 (-13)] w fun e w' => e = .returned (.int .u32 (rot 8192 524288 x)) ∧ w = w' := by
  have e : bits BinOp.and IntKind.u64 (IntKind.u64.wrap (-13)) 31 = 19 := by decide +kernel
  go_enter Try.func118, Try.ntmps118
  go_wp2
  go_ret
  exact ⟨rfl, rfl⟩
set_option maxHeartbeats 800000 in
theorem right_13 (x : Int) (w : World) (h0 : 0 ≤ x) (h1 : x ≤ 4294967295) : Calls Try.prog 117 #[.int .u32 x, .int .i64 13] w fun e w' => e = .returned (.int .u32 (rot 8192 524288 x)) ∧ w = w' := by
  go_enter Try.func117, Try.ntmps117
  go_wp2_with (go_at_call 118; refine (rot_13 x _ h0 h1).mono ?_; rintro e w' ⟨rfl, rfl⟩)
  go_ret
  exact ⟨rfl, rfl⟩
set_option maxHeartbeats 800000 in
theorem turn_13 (x : Int) (w : World) (h0 : 0 ≤ x) (h1 : x ≤ 4294967295) : Calls Try.prog 99 #[.int .u32 x, .int .u64 13] w fun e w' => e = .returned (.int .u32 (rot 8192 524288 x)) ∧ w = w' := by
  go_enter Try.func99, Try.ntmps99
  go_wp2
  go_ret
  exact ⟨congrArg (fun z => Ending.returned (Value.int .u32 z)) (or_comm _ _), rfl⟩

set_option maxHeartbeats 800000 in
theorem rot_17 (x : Int) (w : World) (h0 : 0 ≤ x) (h1 : x ≤ 4294967295) : Calls Try.prog 118 #[.int .u32 x, .int .i64 (-17)] w fun e w' => e = .returned (.int .u32 (rot 131072 32768 x)) ∧ w = w' := by
  have e : bits BinOp.and IntKind.u64 (IntKind.u64.wrap (-17)) 31 = 15 := by decide +kernel
  go_enter Try.func118, Try.ntmps118
  go_wp2
  go_ret
  exact ⟨rfl, rfl⟩
set_option maxHeartbeats 800000 in
theorem right_17 (x : Int) (w : World) (h0 : 0 ≤ x) (h1 : x ≤ 4294967295) : Calls Try.prog 117 #[.int .u32 x, .int .i64 17] w fun e w' => e = .returned (.int .u32 (rot 131072 32768 x)) ∧ w = w' := by
  go_enter Try.func117, Try.ntmps117
  go_wp2_with (go_at_call 118; refine (rot_17 x _ h0 h1).mono ?_; rintro e w' ⟨rfl, rfl⟩)
  go_ret
  exact ⟨rfl, rfl⟩
set_option maxHeartbeats 800000 in
theorem turn_17 (x : Int) (w : World) (h0 : 0 ≤ x) (h1 : x ≤ 4294967295) : Calls Try.prog 99 #[.int .u32 x, .int .u64 17] w fun e w' => e = .returned (.int .u32 (rot 131072 32768 x)) ∧ w = w' := by
  go_enter Try.func99, Try.ntmps99
  go_wp2
  go_ret
  exact ⟨congrArg (fun z => Ending.returned (Value.int .u32 z)) (or_comm _ _), rfl⟩

set_option maxHeartbeats 800000 in
theorem rot_18 (x : Int) (w : World) (h0 : 0 ≤ x) (h1 : x ≤ 4294967295) : Calls Try.prog 118 #[.int .u32 x, .int .i64 (-18)] w fun e w' => e = .returned (.int .u32 (rot 262144 16384 x)) ∧ w = w' := by
  have e : bits BinOp.and IntKind.u64 (IntKind.u64.wrap (-18)) 31 = 14 := by decide +kernel
  go_enter Try.func118, Try.ntmps118
  go_wp2
  go_ret
  exact ⟨rfl, rfl⟩
set_option maxHeartbeats 800000 in
theorem right_18 (x : Int) (w : World) (h0 : 0 ≤ x) (h1 : x ≤ 4294967295) : Calls Try.prog 117 #[.int .u32 x, .int .i64 18] w fun e w' => e = .returned (.int .u32 (rot 262144 16384 x)) ∧ w = w' := by
  go_enter Try.func117, Try.ntmps117
  go_wp2_with (go_at_call 118; refine (rot_18 x _ h0 h1).mono ?_; rintro e w' ⟨rfl, rfl⟩)
  go_ret
  exact ⟨rfl, rfl⟩
set_option maxHeartbeats 800000 in
theorem turn_18 (x : Int) (w : World) (h0 : 0 ≤ x) (h1 : x ≤ 4294967295) : Calls Try.prog 99 #[.int .u32 x, .int .u64 18] w fun e w' => e = .returned (.int .u32 (rot 262144 16384 x)) ∧ w = w' := by
  go_enter Try.func99, Try.ntmps99
  go_wp2
  go_ret
  exact ⟨congrArg (fun z => Ending.returned (Value.int .u32 z)) (or_comm _ _), rfl⟩

set_option maxHeartbeats 800000 in
theorem rot_19 (x : Int) (w : World) (h0 : 0 ≤ x) (h1 : x ≤ 4294967295) : Calls Try.prog 118 #[.int .u32 x, .int .i64 (-19)] w fun e w' => e = .returned (.int .u32 (rot 524288 8192 x)) ∧ w = w' := by
  have e : bits BinOp.and IntKind.u64 (IntKind.u64.wrap (-19)) 31 = 13 := by decide +kernel
  go_enter Try.func118, Try.ntmps118
  go_wp2
  go_ret
  exact ⟨rfl, rfl⟩
set_option maxHeartbeats 800000 in
theorem right_19 (x : Int) (w : World) (h0 : 0 ≤ x) (h1 : x ≤ 4294967295) : Calls Try.prog 117 #[.int .u32 x, .int .i64 19] w fun e w' => e = .returned (.int .u32 (rot 524288 8192 x)) ∧ w = w' := by
  go_enter Try.func117, Try.ntmps117
  go_wp2_with (go_at_call 118; refine (rot_19 x _ h0 h1).mono ?_; rintro e w' ⟨rfl, rfl⟩)
  go_ret
  exact ⟨rfl, rfl⟩
set_option maxHeartbeats 800000 in
theorem turn_19 (x : Int) (w : World) (h0 : 0 ≤ x) (h1 : x ≤ 4294967295) : Calls Try.prog 99 #[.int .u32 x, .int .u64 19] w fun e w' => e = .returned (.int .u32 (rot 524288 8192 x)) ∧ w = w' := by
  go_enter Try.func99, Try.ntmps99
  go_wp2
  go_ret
  exact ⟨congrArg (fun z => Ending.returned (Value.int .u32 z)) (or_comm _ _), rfl⟩

set_option maxHeartbeats 800000 in
theorem rot_22 (x : Int) (w : World) (h0 : 0 ≤ x) (h1 : x ≤ 4294967295) : Calls Try.prog 118 #[.int .u32 x, .int .i64 (-22)] w fun e w' => e = .returned (.int .u32 (rot 4194304 1024 x)) ∧ w = w' := by
  have e : bits BinOp.and IntKind.u64 (IntKind.u64.wrap (-22)) 31 = 10 := by decide +kernel
  go_enter Try.func118, Try.ntmps118
  go_wp2
  go_ret
  exact ⟨rfl, rfl⟩
set_option maxHeartbeats 800000 in
theorem right_22 (x : Int) (w : World) (h0 : 0 ≤ x) (h1 : x ≤ 4294967295) : Calls Try.prog 117 #[.int .u32 x, .int .i64 22] w fun e w' => e = .returned (.int .u32 (rot 4194304 1024 x)) ∧ w = w' := by
  go_enter Try.func117, Try.ntmps117
  go_wp2_with (go_at_call 118; refine (rot_22 x _ h0 h1).mono ?_; rintro e w' ⟨rfl, rfl⟩)
  go_ret
  exact ⟨rfl, rfl⟩
set_option maxHeartbeats 800000 in
theorem turn_22 (x : Int) (w : World) (h0 : 0 ≤ x) (h1 : x ≤ 4294967295) : Calls Try.prog 99 #[.int .u32 x, .int .u64 22] w fun e w' => e = .returned (.int .u32 (rot 4194304 1024 x)) ∧ w = w' := by
  go_enter Try.func99, Try.ntmps99
  go_wp2
  go_ret
  exact ⟨congrArg (fun z => Ending.returned (Value.int .u32 z)) (or_comm _ _), rfl⟩

set_option maxHeartbeats 800000 in
theorem rot_25 (x : Int) (w : World) (h0 : 0 ≤ x) (h1 : x ≤ 4294967295) : Calls Try.prog 118 #[.int .u32 x, .int .i64 (-25)] w fun e w' => e = .returned (.int .u32 (rot 33554432 128 x)) ∧ w = w' := by
  have e : bits BinOp.and IntKind.u64 (IntKind.u64.wrap (-25)) 31 = 7 := by decide +kernel
  go_enter Try.func118, Try.ntmps118
  go_wp2
  go_ret
  exact ⟨rfl, rfl⟩
set_option maxHeartbeats 800000 in
theorem right_25 (x : Int) (w : World) (h0 : 0 ≤ x) (h1 : x ≤ 4294967295) : Calls Try.prog 117 #[.int .u32 x, .int .i64 25] w fun e w' => e = .returned (.int .u32 (rot 33554432 128 x)) ∧ w = w' := by
  go_enter Try.func117, Try.ntmps117
  go_wp2_with (go_at_call 118; refine (rot_25 x _ h0 h1).mono ?_; rintro e w' ⟨rfl, rfl⟩)
  go_ret
  exact ⟨rfl, rfl⟩
theorem rightq_25 (x : Int) (w : World) (m : Nat) (h : 0 ≤ x ∧ x ≤ 4294967295) : Calls Try.prog 117 #[.int .u32 x, .int .i64 25] (w.drewN m) fun e w'' => e = .returned (.int .u32 (rot 33554432 128 x)) ∧ ∃ m', w'' = w.drewN m' :=
  (right_25 x _ h.1 h.2).mono fun _ _ ⟨he, hw⟩ => ⟨he, m, hw.symm⟩
set_option maxHeartbeats 800000 in
theorem turn_25 (x : Int) (w : World) (h0 : 0 ≤ x) (h1 : x ≤ 4294967295) : Calls Try.prog 99 #[.int .u32 x, .int .u64 25] w fun e w' => e = .returned (.int .u32 (rot 33554432 128 x)) ∧ w = w' := by
  go_enter Try.func99, Try.ntmps99
  go_wp2
  go_ret
  exact ⟨congrArg (fun z => Ending.returned (Value.int .u32 z)) (or_comm _ _), rfl⟩
end Go.Proofs.Ytfpkgdenohcglaa.Sha
/- The words of a block: sha.spread walked. -/
namespace Go.Proofs.Ytfpkgdenohcglaa.Sha
set_option linter.unusedVariables false
open Go.RowKit Go.Proofs.Ytfpkgdenohcglaa.Base Go.Proofs.Ytfpkgdenohcglaa.ShaPlain Go.Proofs.YtfpkgdenohcglaaW.PrintWords Go.Proofs.YtfpkgdenohcglaaW.PrintLast Go.Proofs.YtfpkgdenohcglaaW.PrintMore
/-- The bytes of a block that lies within a block of memory. -/
def Blk (w : World) (g o : Nat) (b : List Int) : Prop := ∀ j, j < 64 → w.cell? ⟨g, o + j, none⟩ = some (.int .u8 (b.getD j 0))
theorem Blk.below {w w1 : World} {g o : Nat} {b : List Int} (h : Blk w g o b) (hb : Below w.heap.size w w1) : Blk w1 g o b := fun j hj => (hb.cell (World.block_lt_of_cell? _ _ (h j hj))).trans (h j hj)
theorem nums_set (k : IntKind) (xs : List Int) (i : Nat) (x : Int) : (nums k xs).toArray.setIfInBounds i (.int k x) = (nums k (xs.set i x)).toArray := by
  simp [nums]
/-- Words in a block of their own. -/
def Words (w : World) (g T : Nat) (ws : List Int) : Prop := w.heap[g]? = some (.cells (nums .u32 ws).toArray T (0, 0))
theorem Words.cell {w : World} {g T : Nat} {ws : List Int} (h : Words w g T ws) (i : Nat) (hi : i < ws.length) : w.cell? ⟨g, i, none⟩ = some (.int .u32 (ws.getD i 0)) := by
  rw [blk_cell h i]
  simp [nums, List.getElem?_eq_getElem hi, List.getD_eq_getElem?_getD]
theorem Words.free {w : World} {g T : Nat} {ws : List Int} (h : Words w g T ws) (i : Nat) : w.frozen? ⟨g, i, none⟩ = false := blk_frozen h i
theorem Words.set {w : World} {g T : Nat} {ws : List Int} (h : Words w g T ws) (i : Nat) (x : Int) : Words (w.setCell ⟨g, i, none⟩ (.int .u32 x)) g T (ws.set i x) := by
  have := blk_set h i (.int .u32 x)
  rw [nums_set] at this
  exact this
theorem Words.lt {w : World} {g T : Nat} {ws : List Int} (h : Words w g T ws) : g < w.heap.size := blk_lt h
theorem word4_eq {a b c d : Int} (ha : 0 ≤ a ∧ a ≤ 255) (hb : 0 ≤ b ∧ b ≤ 255) (hc : 0 ≤ c ∧ c ≤ 255) (hd : 0 ≤ d ∧ d ≤ 255) :
    bits .or .u32 (bits .or .u32 (bits .or .u32 (IntKind.u32.wrap (IntKind.u32.wrap a * 16777216)) (IntKind.u32.wrap (IntKind.u32.wrap b * 65536))) (IntKind.u32.wrap (IntKind.u32.wrap c * 256))) (IntKind.u32.wrap d) = word4 a b c d := by
  unfold word4
  simp only [IntKind.wrap_u32]
  rw [show a % 4294967296 = a from by omega, show (b % 4294967296 * 65536) % 4294967296 = b * 65536 from by omega, show (c % 4294967296 * 256) % 4294967296 = c * 256 from by omega, show d % 4294967296 = d from by omega]
def SpreadInv (w : World) (b : List Int) (k : Nat) (wr : World) : Prop := Words wr w.heap.size 119 (fill b k) ∧ Below w.heap.size w wr
theorem SpreadInv.next {w : World} {b : List Int} {k : Nat} {wr : World} (h : SpreadInv w b k wr) {v : Int} (hv : v = ShaPlain.next b (fill b k) k) : SpreadInv w b (k + 1) (wr.drew.setCell ⟨w.heap.size, k, none⟩ (.int .u32 v)) := by
  subst hv
  exact ⟨Words.set (w := wr.drew) h.1 k _, below_set (below_drew1 h.2) (Nat.le_refl _)⟩
theorem zeros_new (w : World) : (w.alloc (.cells #[.int .u32 0, .int .u32 0, .int .u32 0, .int .u32 0, .int .u32 0, .int .u32 0, .int .u32 0, .int .u32 0, .int .u32 0, .int .u32 0, .int .u32 0, .int .u32 0, .int .u32 0, .int .u32 0, .int .u32 0, .int .u32 0, .int .u32 0, .int .u32 0, .int .u32 0, .int .u32 0, .int .u32 0, .int .u32 0, .int .u32 0, .int .u32 0, .int .u32 0, .int .u32 0, .int .u32 0, .int .u32 0, .int .u32 0, .int .u32 0, .int .u32 0, .int .u32 0, .int .u32 0, .int .u32 0, .int .u32 0, .int .u32 0, .int .u32 0, .int .u32 0, .int .u32 0, .int .u32 0, .int .u32 0, .int .u32 0, .int .u32 0, .int .u32 0, .int .u32 0, .int .u32 0, .int .u32 0, .int .u32 0, .int .u32 0, .int .u32 0, .int .u32 0, .int .u32 0, .int .u32 0, .int .u32 0, .int .u32 0, .int .u32 0, .int .u32 0, .int .u32 0, .int .u32 0, .int .u32 0, .int .u32 0, .int .u32 0, .int .u32 0, .int .u32 0] 119)).heap[w.heap.size]? = some (.cells (nums .u32 (List.replicate 64 0)).toArray 119 (0, 0)) := blk_new _ _
set_option maxHeartbeats 4000000 in
set_option maxRecDepth 100000 in
theorem spread_c (g o : Nat) (b : List Int) (w : World) (hb : Blk w g o b) (hu : ∀ j, j < 64 → 0 ≤ b.getD j 0 ∧ b.getD j 0 ≤ 255) : Calls Try.prog 116 #[.pointer (some ⟨g, o, none⟩)] w fun e w' => ∃ p : Nat, e = .returned (.pointer (some ⟨p, 0, none⟩)) ∧ w.heap.size ≤ p ∧ Words w' p 119 (fill b 64) ∧ Below w.heap.size w w' := by
  have HB := Aside0.mk hb
  have HU := Aside0.mk hu
  clear hb hu
  have H0 := Aside0.mk (show SpreadInv w b 0 (w.alloc (.cells #[.int .u32 0, .int .u32 0, .int .u32 0, .int .u32 0, .int .u32 0, .int .u32 0, .int .u32 0, .int .u32 0, .int .u32 0, .int .u32 0, .int .u32 0, .int .u32 0, .int .u32 0, .int .u32 0, .int .u32 0, .int .u32 0, .int .u32 0, .int .u32 0, .int .u32 0, .int .u32 0, .int .u32 0, .int .u32 0, .int .u32 0, .int .u32 0, .int .u32 0, .int .u32 0, .int .u32 0, .int .u32 0, .int .u32 0, .int .u32 0, .int .u32 0, .int .u32 0, .int .u32 0, .int .u32 0, .int .u32 0, .int .u32 0, .int .u32 0, .int .u32 0, .int .u32 0, .int .u32 0, .int .u32 0, .int .u32 0, .int .u32 0, .int .u32 0, .int .u32 0, .int .u32 0, .int .u32 0, .int .u32 0, .int .u32 0, .int .u32 0, .int .u32 0, .int .u32 0, .int .u32 0, .int .u32 0, .int .u32 0, .int .u32 0, .int .u32 0, .int .u32 0, .int .u32 0, .int .u32 0, .int .u32 0, .int .u32 0, .int .u32 0, .int .u32 0] 119)) from ⟨zeros_new w, below_alloc (Below.refl _ _) _⟩)
  go_enter Try.func116, Try.ntmps116
  go_wp2
  go_loopw [4, 10] (fun _ i wr => ∃ k : Nat, k ≤ 16 ∧ i = .int .i64 k ∧ SpreadInv w b k wr) (fun _ i _ => 16 - (intOf i).toNat)
  case atStart => exact ⟨0, by omega, rfl, H0.out⟩
  case round =>
    obtain ⟨k, hk, rfl, hinv⟩ := hrel
    have HI := Aside0.mk hinv
    by_cases hlt : k < 16
    · have hc := HB.out.below hinv.2
      have hf : wr.drew.frozen? ⟨w.heap.size, k, none⟩ = false := hinv.1.free k
      have hd : wr.drew.cell? ⟨w.heap.size, k, none⟩ = some (.int .u32 ((fill b k).getD k 0)) := hinv.1.cell k (by rw [fill_len]; omega)
      obtain ⟨x0, hx0⟩ : ∃ x, b.getD (4 * k) 0 = x := ⟨_, rfl⟩
      obtain ⟨x1, hx1⟩ : ∃ x, b.getD (4 * k + 1) 0 = x := ⟨_, rfl⟩
      obtain ⟨x2, hx2⟩ : ∃ x, b.getD (4 * k + 2) 0 = x := ⟨_, rfl⟩
      obtain ⟨x3, hx3⟩ : ∃ x, b.getD (4 * k + 3) 0 = x := ⟨_, rfl⟩
      obtain ⟨old, hold⟩ : ∃ x, (fill b k).getD k 0 = x := ⟨_, rfl⟩
      have c0 := hc (4 * k) (by omega)
      have c1 := hc (4 * k + 1) (by omega)
      have c2 := hc (4 * k + 2) (by omega)
      have c3 := hc (4 * k + 3) (by omega)
      have HV := Aside0.mk (show bits .or .u32 (bits .or .u32 (bits .or .u32 (IntKind.u32.wrap (IntKind.u32.wrap x0 * 16777216)) (IntKind.u32.wrap (IntKind.u32.wrap x1 * 65536))) (IntKind.u32.wrap (IntKind.u32.wrap x2 * 256))) (IntKind.u32.wrap x3) = ShaPlain.next b (fill b k) k by
        rw [word4_eq (hx0 ▸ HU.out _ (by omega)) (hx1 ▸ HU.out _ (by omega)) (hx2 ▸ HU.out _ (by omega)) (hx3 ▸ HU.out _ (by omega)), ShaPlain.next, if_pos hlt, hx0, hx1, hx2, hx3])
      rw [hx0] at c0
      rw [hx1] at c1
      rw [hx2] at c2
      rw [hx3] at c3
      rw [hold] at hd
      clear hc hx0 hx1 hx2 hx3 hold hinv
      have e0 : IntKind.i64.wrap (4 * (k : Int)) = 4 * (k : Int) := IntWalk.i64_in _ (by omega)
      have t0 : (4 * (k : Int)).toNat = 4 * k := by omega
      have g0 : (0 : Int) ≤ 4 * (k : Int) := by omega
      have f0 : 4 * (k : Int) < 64 := by omega
      have e1 : IntKind.i64.wrap (4 * (k : Int) + 1) = 4 * (k : Int) + 1 := IntWalk.i64_in _ (by omega)
      have t1 : (4 * (k : Int) + 1).toNat = 4 * k + 1 := by omega
      have g1 : (0 : Int) ≤ 4 * (k : Int) + 1 := by omega
      have f1 : 4 * (k : Int) + 1 < 64 := by omega
      have e2 : IntKind.i64.wrap (4 * (k : Int) + 2) = 4 * (k : Int) + 2 := IntWalk.i64_in _ (by omega)
      have t2 : (4 * (k : Int) + 2).toNat = 4 * k + 2 := by omega
      have g2 : (0 : Int) ≤ 4 * (k : Int) + 2 := by omega
      have f2 : 4 * (k : Int) + 2 < 64 := by omega
      have e3 : IntKind.i64.wrap (4 * (k : Int) + 3) = 4 * (k : Int) + 3 := IntWalk.i64_in _ (by omega)
      have t3 : (4 * (k : Int) + 3).toNat = 4 * k + 3 := by omega
      have g3 : (0 : Int) ≤ 4 * (k : Int) + 3 := by omega
      have f3 : 4 * (k : Int) + 3 < 64 := by omega
      have g4 : (0 : Int) ≤ (k : Int) := by omega
      have f4 : (k : Int) < 64 := by omega
      go_wp2
      go_still_tail 39, (by kernel_rfl)
      change wpList _ _ _ _ _ wr.drew
      obtain ⟨w2, hw2⟩ : ∃ w2, wr.drew = w2 := ⟨_, rfl⟩
      have HW := Aside0.mk hw2
      rw [hw2] at hf hd ⊢
      clear hw2 e0 e1 e2 e3 t0 t1 t2 t3 g0 g1 g2 g3 f0 f1 f2 f3
      go_wp2
      go_roundw
      case rel => exact ⟨k + 1, by omega, by go_num, by rw [← HW.out]; exact HI.out.next HV.out⟩
      case measure => simp [intOf]; omega
    · have HK := Aside0.mk (show k = 16 by omega)
      have hge : 16 ≤ k := by omega
      clear hinv hlt hk
      go_wp2
      clear hge
      go_loopw [5, 6, 7, 8, 9] (fun i _ _ _ _ wr => ∃ k : Nat, 16 ≤ k ∧ k ≤ 64 ∧ i = .int .i64 k ∧ SpreadInv w b k wr) (fun i _ _ _ _ _ => 64 - (intOf i).toNat)
      case atStart => exact ⟨16, by omega, by omega, rfl, by have h := HI.out; rwa [HK.out] at h⟩
      case round =>
        clear HI HK
        obtain ⟨k, hk0, hk, rfl, hinv⟩ := hrel
        have HI := Aside0.mk hinv
        by_cases hlt : k < 64
        · have hU := fun j => (fill_u32 b k).at j
          have hcw : ∀ j, j < 64 → wr.cell? ⟨w.heap.size, j, none⟩ = some (.int .u32 ((fill b k).getD j 0)) := fun j hj => hinv.1.cell j (by rw [fill_len]; omega)
          have hd := hcw k (by omega)
          have c15 := hcw (k - 15) (by omega)
          have c2 := hcw (k - 2) (by omega)
          have c16 := hcw (k - 16) (by omega)
          have c7 := hcw (k - 7) (by omega)
          obtain ⟨x15, hx15⟩ : ∃ x, (fill b k).getD (k - 15) 0 = x := ⟨_, rfl⟩
          obtain ⟨x2, hx2⟩ : ∃ x, (fill b k).getD (k - 2) 0 = x := ⟨_, rfl⟩
          obtain ⟨x16, hx16⟩ : ∃ x, (fill b k).getD (k - 16) 0 = x := ⟨_, rfl⟩
          obtain ⟨x7, hx7⟩ : ∃ x, (fill b k).getD (k - 7) 0 = x := ⟨_, rfl⟩
          obtain ⟨old, hold⟩ : ∃ x, (fill b k).getD k 0 = x := ⟨_, rfl⟩
          have r15 := hU (k - 15)
          have r2 := hU (k - 2)
          rw [hx15] at c15 r15
          rw [hx2] at c2 r2
          rw [hx16] at c16
          rw [hx7] at c7
          rw [hold] at hd
          have HR15 := Aside0.mk r15
          have HR2 := Aside0.mk r2
          have HV := Aside0.mk (show (x16 + low x15 + x7 + high x2) % 4294967296 = ShaPlain.next b (fill b k) k by
            rw [ShaPlain.next, if_neg (by omega), hx15, hx2, hx16, hx7, m32])
          clear hcw hU hx15 hx2 hx16 hx7 hold hinv r15 r2
          have e2 : IntKind.i64.wrap ((k : Int) - 2) = (k : Int) - 2 := IntWalk.i64_in _ (by omega)
          have t2 : ((k : Int) - 2).toNat = k - 2 := by omega
          have g2 : (0 : Int) ≤ (k : Int) - 2 := by omega
          have f2 : (k : Int) - 2 < 64 := by omega
          have e7 : IntKind.i64.wrap ((k : Int) - 7) = (k : Int) - 7 := IntWalk.i64_in _ (by omega)
          have t7 : ((k : Int) - 7).toNat = k - 7 := by omega
          have g7 : (0 : Int) ≤ (k : Int) - 7 := by omega
          have f7 : (k : Int) - 7 < 64 := by omega
          have e15 : IntKind.i64.wrap ((k : Int) - 15) = (k : Int) - 15 := IntWalk.i64_in _ (by omega)
          have t15 : ((k : Int) - 15).toNat = k - 15 := by omega
          have g15 : (0 : Int) ≤ (k : Int) - 15 := by omega
          have f15 : (k : Int) - 15 < 64 := by omega
          have e16 : IntKind.i64.wrap ((k : Int) - 16) = (k : Int) - 16 := IntWalk.i64_in _ (by omega)
          have t16 : ((k : Int) - 16).toNat = k - 16 := by omega
          have g16 : (0 : Int) ≤ (k : Int) - 16 := by omega
          have f16 : (k : Int) - 16 < 64 := by omega
          have g4 : (0 : Int) ≤ (k : Int) := by omega
          have f4 : (k : Int) < 64 := by omega
          go_wp2
          go_quiet (fail)
          have HI2 := Aside0.mk (show SpreadInv w b k (wr.drewN nq) from ⟨HI.out.1, pw_below_drewN HI.out.2 nq⟩)
          have hf' : (wr.drewN nq).drew.frozen? ⟨w.heap.size, k, none⟩ = false := HI.out.1.free k
          have hd' : (wr.drewN nq).drew.cell? ⟨w.heap.size, k, none⟩ = some (.int .u32 old) := hd
          have c16' : (wr.drewN nq).cell? ⟨w.heap.size, k - 16, none⟩ = some (.int .u32 x16) := c16
          have c7' : (wr.drewN nq).cell? ⟨w.heap.size, k - 7, none⟩ = some (.int .u32 x7) := c7
          clear c15 c2 c16 c7 hd HI
          revert HI2 hf' hd' c16' c7'
          generalize wr.drewN nq = wq
          intro HI2 hf hd c16 c7
          go_wp2_with (fail)
          refine (right_7 x15 _ HR15.out.1 HR15.out.2).mono ?_
          rintro e w' ⟨rfl, rfl⟩
          go_wp2_with (fail)
          refine (right_18 x15 _ HR15.out.1 HR15.out.2).mono ?_
          rintro e w' ⟨rfl, rfl⟩
          go_wp2_with (fail)
          refine (right_17 x2 _ HR2.out.1 HR2.out.2).mono ?_
          rintro e w' ⟨rfl, rfl⟩
          go_wp2_with (fail)
          refine (right_19 x2 _ HR2.out.1 HR2.out.2).mono ?_
          rintro e w' ⟨rfl, rfl⟩
          go_wp2_with (fail)
          have h16 : (16 : Int) ≤ (k : Int) := by omega
          have l16 : (k : Int) < 64 + 16 := by omega
          have h7 : (7 : Int) ≤ (k : Int) := by omega
          have l7 : (k : Int) < 64 + 7 := by omega
          go_still_tail 15, (by kernel_rfl)
          change wpList _ _ _ _ _ wq.drew
          obtain ⟨w2, hw2⟩ : ∃ w2, wq.drew = w2 := ⟨_, rfl⟩
          have HW := Aside0.mk hw2
          rw [hw2] at hf hd ⊢
          clear hw2 e2 e7 e15 e16 t2 t7 t15 t16 g2 g7 g15 g16 f2 f7 f15 f16
          go_wp2
          go_roundw
          case rel => exact ⟨k + 1, by omega, by omega, by go_num, by rw [← HW.out]; exact HI2.out.next HV.out⟩
          case measure => simp [intOf]; omega
        · have hk64 : k = 64 := by omega
          subst hk64
          clear hinv hlt hk hk0
          go_wp2
          go_ret
          exact ⟨_, rfl, Nat.le_refl _, HI.out.1, HI.out.2⟩
end Go.Proofs.Ytfpkgdenohcglaa.Sha
/- A block is taken in: sha's mix walked. -/
namespace Go.Proofs.Ytfpkgdenohcglaa.Sha
set_option linter.unusedVariables false
open Go.RowKit Go.Proofs.Ytfpkgdenohcglaa.Base Go.Proofs.Ytfpkgdenohcglaa.ShaPlain Go.Proofs.YtfpkgdenohcglaaW.PrintWords Go.Proofs.YtfpkgdenohcglaaW.PrintLast Go.Proofs.YtfpkgdenohcglaaW.PrintMore
/-- The cells of a Hash. -/
def hashC (made : Bool) (s r : List Int) (n : Int) : List Value := .bool made :: (nums .u32 s ++ (nums .u8 r ++ [.int .u64 n]))
/-- A Hash at block g. -/
def Hsh (w0 w : World) (g : Nat) (made : Bool) (s r : List Int) (n : Int) : Prop :=
  w0.heap.size ≤ g ∧ w.heap[g]? = some (.cells (hashC made s r n).toArray 136 (0, 0)) ∧ s.length = 8 ∧ r.length = 64 ∧ U32 s ∧ (∀ x ∈ r, 0 ≤ x ∧ x ≤ 255)
theorem hashC_state {made : Bool} {s r : List Int} {n : Int} (i : Nat) (hi : i < s.length) : (hashC made s r n)[1 + i]? = some (.int .u32 (s.getD i 0)) := by
  unfold hashC
  rw [Nat.add_comm, List.getElem?_cons_succ, List.getElem?_append_left (by simpa [nums] using hi)]
  simp [nums, List.getElem?_eq_getElem hi, List.getD_eq_getElem?_getD]
theorem hashC_rest {made : Bool} {s r : List Int} {n : Int} (hs : s.length = 8) (i : Nat) (hi : i < r.length) : (hashC made s r n)[9 + i]? = some (.int .u8 (r.getD i 0)) := by
  unfold hashC
  rw [show 9 + i = (8 + i) + 1 from by omega, List.getElem?_cons_succ, List.getElem?_append_right (by simp [nums, hs]), List.getElem?_append_left (by simp [nums, hs]; omega)]
  simp [nums, hs, List.getElem?_eq_getElem hi, List.getD_eq_getElem?_getD]
theorem hashC_n {made : Bool} {s r : List Int} {n : Int} (hs : s.length = 8) (hr : r.length = 64) : (hashC made s r n)[73]? = some (.int .u64 n) := by
  unfold hashC
  rw [List.getElem?_cons_succ, List.getElem?_append_right (by simp [nums, hs]), List.getElem?_append_right (by simp [nums, hs, hr])]
  simp [nums, hs, hr]
theorem hashC_len {made : Bool} {s r : List Int} {n : Int} (hs : s.length = 8) (hr : r.length = 64) : (hashC made s r n).length = 74 := by
  simp [hashC, nums, hs, hr]
theorem hashC_set_state {made : Bool} {s r : List Int} {n : Int} (i : Nat) (x : Int) (hi : i < s.length) : (hashC made s r n).set (1 + i) (.int .u32 x) = hashC made (s.set i x) r n := by
  unfold hashC
  rw [Nat.add_comm, List.set_cons_succ, List.set_append_left _ _ (by simpa [nums] using hi)]
  simp [nums]
theorem hashC_set_rest {made : Bool} {s r : List Int} {n : Int} (hs : s.length = 8) (i : Nat) (x : Int) (hi : i < r.length) : (hashC made s r n).set (9 + i) (.int .u8 x) = hashC made s (r.set i x) n := by
  unfold hashC
  rw [show 9 + i = (8 + i) + 1 from by omega, List.set_cons_succ, List.set_append_right _ _ (by simp [nums, hs]), List.set_append_left _ _ (by simp [nums, hs]; omega)]
  simp [nums, hs]
theorem hashC_set_n {made : Bool} {s r : List Int} {n : Int} (hs : s.length = 8) (hr : r.length = 64) (x : Int) : (hashC made s r n).set 73 (.int .u64 x) = hashC made s r x := by
  unfold hashC
  rw [List.set_cons_succ, List.set_append_right _ _ (by simp [nums, hs]), List.set_append_right _ _ (by simp [nums, hs, hr])]
  simp [nums, hs, hr]
theorem toArray_set (l : List Value) (i : Nat) (v : Value) : l.toArray.setIfInBounds i v = (l.set i v).toArray := by simp
namespace Hsh
variable {w0 w : World} {g : Nat} {made : Bool} {s r : List Int} {n : Int}
theorem cell (h : Hsh w0 w g made s r n) (j : Nat) : w.cell? ⟨g, j, none⟩ = (hashC made s r n)[j]? := by
  rw [blk_cell h.2.1 j]
  simp
theorem made_ (h : Hsh w0 w g made s r n) : w.cell? ⟨g, 0, none⟩ = some (.bool made) := h.cell 0
theorem state (h : Hsh w0 w g made s r n) (i : Nat) (hi : i < 8) : w.cell? ⟨g, 1 + i, none⟩ = some (.int .u32 (s.getD i 0)) := by
  rw [h.cell, hashC_state i (by rw [h.2.2.1]; omega)]
theorem rest (h : Hsh w0 w g made s r n) : Blk w g 9 r := fun j hj => by
  rw [h.cell, hashC_rest h.2.2.1 j (by rw [h.2.2.2.1]; omega)]
theorem n_ (h : Hsh w0 w g made s r n) : w.cell? ⟨g, 73, none⟩ = some (.int .u64 n) := by
  rw [h.cell, hashC_n h.2.2.1 h.2.2.2.1]
theorem free (h : Hsh w0 w g made s r n) (j : Nat) : w.frozen? ⟨g, j, none⟩ = false := blk_frozen h.2.1 j
theorem lt (h : Hsh w0 w g made s r n) : g < w.heap.size := blk_lt h.2.1
theorem below {w1 : World} (h : Hsh w0 w g made s r n) (hb : Below w.heap.size w w1) : Hsh w0 w1 g made s r n := ⟨h.1, (hb.block g (blk_lt h.2.1)).trans h.2.1, h.2.2⟩
theorem keep {w1 : World} {g' : Nat} (h : Hsh w0 w g made s r n) (hk : KeepBut w w1 g' none) (hne : g ≠ g') : Hsh w0 w1 g made s r n := ⟨h.1, hk.blk h.2.1 hne (by simp), h.2.2⟩
theorem set_state (h : Hsh w0 w g made s r n) (i : Nat) (x : Int) (hi : i < 8) (hx : 0 ≤ x ∧ x ≤ 4294967295) : Hsh w0 (w.setCell ⟨g, 1 + i, none⟩ (.int .u32 x)) g made (s.set i x) r n := by
  refine ⟨h.1, ?_, by rw [List.length_set]; exact h.2.2.1, h.2.2.2.1, h.2.2.2.2.1.set i hx, h.2.2.2.2.2⟩
  rw [blk_set h.2.1, toArray_set, hashC_set_state i x (by rw [h.2.2.1]; omega)]
theorem set_rest (h : Hsh w0 w g made s r n) (i : Nat) (x : Int) (hi : i < 64) (hx : 0 ≤ x ∧ x ≤ 255) : Hsh w0 (w.setCell ⟨g, 9 + i, none⟩ (.int .u8 x)) g made s (r.set i x) n := by
  refine ⟨h.1, ?_, h.2.2.1, by rw [List.length_set]; exact h.2.2.2.1, h.2.2.2.2.1, fun y hy => (List.mem_or_eq_of_mem_set hy).elim (h.2.2.2.2.2 y) (fun e => e ▸ hx)⟩
  rw [blk_set h.2.1, toArray_set, hashC_set_rest h.2.2.1 i x (by rw [h.2.2.2.1]; omega)]
theorem set_n (h : Hsh w0 w g made s r n) (x : Int) : Hsh w0 (w.setCell ⟨g, 73, none⟩ (.int .u64 x)) g made s r x := by
  refine ⟨h.1, ?_, h.2.2⟩
  rw [blk_set h.2.1, toArray_set, hashC_set_n h.2.2.1 h.2.2.2.1 x]
theorem byte (h : Hsh w0 w g made s r n) (j : Nat) : 0 ≤ r.getD j 0 ∧ r.getD j 0 ≤ 255 := by
  rw [List.getD_eq_getElem?_getD]
  by_cases hi : j < r.length
  · rw [List.getElem?_eq_getElem hi]; exact h.2.2.2.2.2 _ (List.getElem_mem hi)
  · rw [List.getElem?_eq_none (by omega)]; simp
end Hsh
theorem len8 {l : List Int} (h : l.length = 8) : ∃ a b c d e f g i, l = [a, b, c, d, e, f, g, i] := by
  match l, h with
  | [a, b, c, d, e, f, g, i], _ => exact ⟨a, b, c, d, e, f, g, i, rfl⟩
/-- The eight words under way, in a block of their own. -/
def MixInv (w1 : World) (v : List Int) (wr : World) : Prop := Words wr w1.heap.size 107 v ∧ Below w1.heap.size w1 wr
theorem MixInv.drewN {w1 wr : World} {v : List Int} (h : MixInv w1 v wr) (m : Nat) : MixInv w1 v (wr.drewN m) := ⟨h.1, pw_below_drewN h.2 m⟩
theorem MixInv.set {w1 wr : World} {v : List Int} (h : MixInv w1 v wr) (i : Nat) (x : Int) : MixInv w1 (v.set i x) (wr.setCell ⟨w1.heap.size, i, none⟩ (.int .u32 x)) := ⟨h.1.set i x, below_set h.2 (Nat.le_refl _)⟩
theorem info_u32 : (Try.prog.info? 106).map (·.size) = some 1 := by kernel_rfl
theorem MixInv.next {w1 w3 : World} {s ws : List Int} {k : Nat} {v0 v1 v2 v3 v4 v5 v6 X Y : Int} (h : MixInv w1 [v0, v0, v1, v2, v3, v4, v5, v6] w3) (hr : rounds s ws (k + 1) = [X, v0, v1, v2, Y, v4, v5, v6]) :
    MixInv w1 (rounds s ws (k + 1)) ((w3.setCell ⟨w1.heap.size, 0, none⟩ (.int .u32 X)).setCell ⟨w1.heap.size, 4, none⟩ (.int .u32 Y)) := by
  rw [hr]
  exact (h.set 0 X).set 4 Y
/-- The Hash under way, its first words added to. -/
def AddInv (w0 w : World) (g : Nat) (s v r : List Int) (n : Int) (j : Nat) (wx : World) : Prop :=
  Hsh w0 wx g true (List.zipWith (fun x y => m32 (x + y)) (s.take j) v ++ s.drop j) r n ∧ Below w0.heap.size w0 wx ∧ KeepBut w wx g none
theorem AddInv.next {w0 w wx : World} {g : Nat} {s v r : List Int} {n : Int} {j : Nat} (h : AddInv w0 w g s v r n j wx) (hj : j < 8) (hs : s.length = 8) (hv : v.length = 8) {X : Int} (hX : X = (s.getD j 0 + v.getD j 0) % 4294967296) :
    AddInv w0 w g s v r n (j + 1) (wx.drew.setCell ⟨g, 1 + j, none⟩ (.int .u32 X)) := by
  subst hX
  have h1 := Hsh.set_state (w := wx.drew) (w0 := w0) (g := g) (made := true) (r := r) (n := n) (s := List.zipWith (fun x y => m32 (x + y)) (s.take j) v ++ s.drop j) h.1 j ((s.getD j 0 + v.getD j 0) % 4294967296) hj (by omega)
  refine ⟨?_, below_set (below_drew1 h.2.1) h.1.1, (keep_drew h.2.2).set_ _ _⟩
  have e : (List.zipWith (fun x y => m32 (x + y)) (s.take j) v ++ s.drop j).set j ((s.getD j 0 + v.getD j 0) % 4294967296) = List.zipWith (fun x y => m32 (x + y)) (s.take (j + 1)) v ++ s.drop (j + 1) := by
    obtain ⟨s0, s1, s2, s3, s4, s5, s6, s7, rfl⟩ := len8 hs
    obtain ⟨v0, v1, v2, v3, v4, v5, v6, v7, rfl⟩ := len8 hv
    have : j = 0 ∨ j = 1 ∨ j = 2 ∨ j = 3 ∨ j = 4 ∨ j = 5 ∨ j = 6 ∨ j = 7 := by omega
    rcases this with rfl | rfl | rfl | rfl | rfl | rfl | rfl | rfl <;> rfl
  rw [e] at h1
  exact h1
theorem AddInv.cell {w0 w wx : World} {g : Nat} {s v r : List Int} {n : Int} {j : Nat} (h : AddInv w0 w g s v r n j wx) (hj : j < 8) (hs : s.length = 8) (hv : v.length = 8) : wx.cell? ⟨g, 1 + j, none⟩ = some (.int .u32 (s.getD j 0)) := by
  rw [h.1.state j hj]
  congr 2
  obtain ⟨s0, s1, s2, s3, s4, s5, s6, s7, rfl⟩ := len8 hs
  obtain ⟨v0, v1, v2, v3, v4, v5, v6, v7, rfl⟩ := len8 hv
  have : j = 0 ∨ j = 1 ∨ j = 2 ∨ j = 3 ∨ j = 4 ∨ j = 5 ∨ j = 6 ∨ j = 7 := by omega
  rcases this with rfl | rfl | rfl | rfl | rfl | rfl | rfl | rfl <;> rfl
set_option maxHeartbeats 8000000 in
set_option maxRecDepth 100000 in
theorem mix_c (w0 w : World) (g kb : Nat) (s r : List Int) (n : Int) (h : Hsh w0 w g true s r n) (hB : Below w0.heap.size w0 w) (hk : Words w kb 119 keys) (hne : kb ≠ g) :
    Calls Try.prog 115 #[.pointer (some ⟨g, 0, none⟩), .pointer (some ⟨kb, 0, none⟩)] w fun e w' => e = .returned (.tuple #[]) ∧ Hsh w0 w' g true (press s r) r n ∧ Below w0.heap.size w0 w' ∧ KeepBut w w' g none := by
  obtain ⟨s0, s1, s2, s3, s4, s5, s6, s7, hs⟩ := len8 h.2.2.1
  have HS := Aside0.mk hs
  have HI := Aside0.mk h
  have HB := Aside0.mk hB
  have HK := Aside0.mk hk
  have HNE := Aside0.mk hne
  clear h hB hk hne hs
  go_enter Try.func115, Try.ntmps115
  go_wp2_with (fail)
  refine (spread_c g 9 r w HI.out.rest (fun j _ => HI.out.byte j)).mono ?_
  rintro e w1 ⟨p, rfl, hp, hws, hb⟩
  obtain ⟨ws, hwse⟩ : ∃ ws, fill r 64 = ws := ⟨_, rfl⟩
  rw [hwse] at hws
  have HWE := Aside0.mk hwse
  have HP := Aside0.mk hp
  have HW := Aside0.mk hws
  have HI1 := Aside0.mk (HI.out.below hb)
  have HB1 := Aside0.mk hb
  have HK1 := Aside0.mk (show Words w1 kb 119 keys from (hb.block kb HK.out.lt).trans HK.out)
  have hst := HI1.out.state
  rw [HS.out] at hst
  have z0 : w1.cell? ⟨g, 1, none⟩ = some (.int .u32 s0) := hst 0 (by omega)
  have z1 : w1.cell? ⟨g, 2, none⟩ = some (.int .u32 s1) := hst 1 (by omega)
  have z2 : w1.cell? ⟨g, 3, none⟩ = some (.int .u32 s2) := hst 2 (by omega)
  have z3 : w1.cell? ⟨g, 4, none⟩ = some (.int .u32 s3) := hst 3 (by omega)
  have z4 : w1.cell? ⟨g, 5, none⟩ = some (.int .u32 s4) := hst 4 (by omega)
  have z5 : w1.cell? ⟨g, 6, none⟩ = some (.int .u32 s5) := hst 5 (by omega)
  have z6 : w1.cell? ⟨g, 7, none⟩ = some (.int .u32 s6) := hst 6 (by omega)
  have z7 : w1.cell? ⟨g, 8, none⟩ = some (.int .u32 s7) := hst 7 (by omega)
  clear hst hwse hp hws hb
  have H0 := Aside0.mk (show MixInv w1 (rounds s ws 0) (w1.alloc (.cells #[.int .u32 s0, .int .u32 s1, .int .u32 s2, .int .u32 s3, .int .u32 s4, .int .u32 s5, .int .u32 s6, .int .u32 s7] 107)) by
    refine ⟨?_, below_alloc (Below.refl _ _) _⟩
    rw [show rounds s ws 0 = s from rfl, HS.out]
    exact blk_new _ _)
  have HLS := Aside0.mk (show s.length = 8 from HI.out.2.2.1)
  have HUS := Aside0.mk (show U32 s from HI.out.2.2.2.2.1)
  go_wp2
  clear z0 z1 z2 z3 z4 z5 z6 z7
  go_loopw [6, 7, 8, 9, 10, 11, 12, 23] (fun _ _ _ _ _ _ _ i wr => ∃ k : Nat, k ≤ 64 ∧ i = .int .i64 k ∧ MixInv w1 (rounds s ws k) wr) (fun _ _ _ _ _ _ _ i _ => 64 - (intOf i).toNat)
  case atStart => exact ⟨0, by omega, rfl, H0.out⟩
  case round =>
    obtain ⟨k, hk, rfl, hinv⟩ := hrel
    have hU := (rounds_u32 HUS.out ws k).at
    obtain ⟨v0, v1, v2, v3, v4, v5, v6, v7, hv⟩ := len8 (rounds_len HLS.out ws k)
    have HV := Aside0.mk hv
    rw [hv] at hU
    have hinv' := hinv
    rw [hv] at hinv'
    have HI2 := Aside0.mk hinv'
    have hw := hinv'.1.cell
    have c0 : wr.cell? ⟨w1.heap.size, 0, none⟩ = some (.int .u32 v0) := hw 0 (by simp)
    have c1 : wr.cell? ⟨w1.heap.size, 1, none⟩ = some (.int .u32 v1) := hw 1 (by simp)
    have c2 : wr.cell? ⟨w1.heap.size, 2, none⟩ = some (.int .u32 v2) := hw 2 (by simp)
    have c4 : wr.cell? ⟨w1.heap.size, 4, none⟩ = some (.int .u32 v4) := hw 4 (by simp)
    have c5 : wr.cell? ⟨w1.heap.size, 5, none⟩ = some (.int .u32 v5) := hw 5 (by simp)
    have c6 : wr.cell? ⟨w1.heap.size, 6, none⟩ = some (.int .u32 v6) := hw 6 (by simp)
    have c7 : wr.cell? ⟨w1.heap.size, 7, none⟩ = some (.int .u32 v7) := hw 7 (by simp)
    have HR0 := Aside0.mk (show 0 ≤ v0 ∧ v0 ≤ 4294967295 from hU 0)
    have HR4 := Aside0.mk (show 0 ≤ v4 ∧ v4 ≤ 4294967295 from hU 4)
    by_cases hlt : k < 64
    · obtain ⟨kk, hkk⟩ : ∃ x, keys.getD k 0 = x := ⟨_, rfl⟩
      obtain ⟨xx, hxx⟩ : ∃ x, ws.getD k 0 = x := ⟨_, rfl⟩
      have ck : wr.cell? ⟨kb, k, none⟩ = some (.int .u32 kk) := by
        rw [← hkk]
        have := HK1.out.cell k (by show k < 64; omega)
        exact (hinv.2.cell (World.block_lt_of_cell? _ _ this)).trans this
      have cx : wr.cell? ⟨p, k, none⟩ = some (.int .u32 xx) := by
        rw [← hxx]
        have := HW.out.cell k (by rw [← HWE.out, fill_len]; omega)
        exact (hinv.2.cell (World.block_lt_of_cell? _ _ this)).trans this
      have HKX := Aside0.mk (And.intro hkk hxx)
      have g4 : (0 : Int) ≤ (k : Int) := by omega
      have f4 : (k : Int) < 64 := by omega
      clear hv hU hinv hinv' hw hkk hxx
      go_wp2
      go_quiet (fail)
      have d0 : (wr.drewN nq).cell? ⟨w1.heap.size, 0, none⟩ = some (.int .u32 v0) := c0
      have d1 : (wr.drewN nq).cell? ⟨w1.heap.size, 1, none⟩ = some (.int .u32 v1) := c1
      have d2 : (wr.drewN nq).cell? ⟨w1.heap.size, 2, none⟩ = some (.int .u32 v2) := c2
      have d5 : (wr.drewN nq).cell? ⟨w1.heap.size, 5, none⟩ = some (.int .u32 v5) := c5
      have d6 : (wr.drewN nq).cell? ⟨w1.heap.size, 6, none⟩ = some (.int .u32 v6) := c6
      have d7 : (wr.drewN nq).cell? ⟨w1.heap.size, 7, none⟩ = some (.int .u32 v7) := c7
      have dk : (wr.drewN nq).cell? ⟨kb, k, none⟩ = some (.int .u32 kk) := ck
      have dx : (wr.drewN nq).cell? ⟨p, k, none⟩ = some (.int .u32 xx) := cx
      have HI3 := Aside0.mk (HI2.out.drewN nq)
      clear c0 c1 c2 c4 c5 c6 c7 ck cx HI2
      revert d0 d1 d2 d5 d6 d7 dk dx HI3
      generalize wr.drewN nq = wq
      intro d0 d1 d2 d5 d6 d7 dk dx HI3
      have rq6 := fun m => rightq_6 v4 wq m HR4.out
      have rq11 := fun m => rightq_11 v4 wq m HR4.out
      have rq25 := fun m => rightq_25 v4 wq m HR4.out
      go_wp2_with (fail)
      go_quiet ((first | (with_reducible exact rq6 _) | (with_reducible exact rq11 _) | (with_reducible exact rq25 _)))
      have HI4 := Aside0.mk (HI3.out.drewN nq)
      clear d0 d1 d2 d5 d6 d7 dk dx HI3 rq6 rq11 rq25
      revert HI4
      generalize wq.drewN nq = w2
      intro HI4
      go_wp2_with (fail)
      refine (right_2 v0 _ HR0.out.1 HR0.out.2).mono ?_
      rintro e w' ⟨rfl, rfl⟩
      go_wp2_with (fail)
      refine (right_13 v0 _ HR0.out.1 HR0.out.2).mono ?_
      rintro e w' ⟨rfl, rfl⟩
      go_wp2_with (fail)
      refine (right_22 v0 _ HR0.out.1 HR0.out.2).mono ?_
      rintro e w' ⟨rfl, rfl⟩
      go_wp2_with (fail)
      go_still_tail 2, (by kernel_rfl)
      change wpList _ _ _ _ _ w2.drew
      refine wpList_copy_splice rfl (.tmp 90) (.tmp 91) 144 144 rfl 106 Try.underlying144 info_u32 (some ⟨w1.heap.size, 1, none⟩) (some ⟨w1.heap.size, 0, none⟩) 7 7 7 8 rfl rfl w1.heap.size 1 (nums .u32 [v0, v1, v2, v3, v4, v5, v6, v7]) 107 HI4.out.1 (nums .u32 [v0, v1, v2, v3, v4, v5, v6]) rfl (fun _ => ⟨rfl, _, rfl, fun j v hv => ?hsrc⟩) (by simp [nums]) (fun v hv => ?hone) w1.heap.size w1 (below_drew1 HI4.out.2) (Nat.le_refl _) ?_
      case hsrc =>
        have hj : j < 7 := (List.getElem?_eq_some_iff.1 hv).1
        rw [add_plain]
        have := HI4.out.1.cell j (by show j < 8; omega)
        refine (show w2.drew.cell? _ = _ from this).trans ?_
        rw [← hv]
        match j, hj with
        | 0, _ => rfl
        | 1, _ => rfl
        | 2, _ => rfl
        | 3, _ => rfl
        | 4, _ => rfl
        | 5, _ => rfl
        | 6, _ => rfl
      case hone =>
        obtain ⟨x, _, rfl⟩ := List.mem_map.1 hv
        rfl
      intro w3 hg3 hb3
      have HI5 := Aside0.mk (show MixInv w1 [v0, v0, v1, v2, v3, v4, v5, v6] w3 from ⟨hg3, hb3⟩)
      have c0 : w3.cell? ⟨w1.heap.size, 0, none⟩ = some (.int .u32 v0) := HI5.out.1.cell 0 (by simp)
      have c4 : w3.cell? ⟨w1.heap.size, 4, none⟩ = some (.int .u32 v3) := HI5.out.1.cell 4 (by simp)
      have f0 := HI5.out.1.free 0
      have f4' := HI5.out.1.free 4
      clear hg3 hb3 HI4
      go_wp2
      go_roundw
      case rel =>
        refine ⟨k + 1, by omega, by go_num, HI5.out.next ?_⟩
        rw [show rounds s ws (k + 1) = ShaPlain.step (rounds s ws k) (keys.getD k 0) (ws.getD k 0) from rfl, HV.out, HKX.out.1, HKX.out.2]
        show [m32 (one _ kk xx + two _), v0, v1, v2, m32 (v3 + one _ kk xx), v4, v5, v6] = _
        simp only [List.cons.injEq, true_and, and_true]
        constructor
        · show m32 (m32 (v7 + sigE v4 + choice v4 v5 v6 + kk + xx) + m32 (sigA v0 + most v0 v1 v2)) = _
          unfold m32 sigE sigA choice most xo an
          omega
        · show m32 (v3 + m32 (v7 + sigE v4 + choice v4 v5 v6 + kk + xx)) = _
          unfold m32 sigE choice xo an
          omega
      case measure => simp [intOf]; omega
    · have HKE := Aside0.mk (show k = 64 by omega)
      have hge : 64 ≤ k := by omega
      have c3 : wr.cell? ⟨w1.heap.size, 3, none⟩ = some (.int .u32 v3) := hw 3 (by simp)
      have hb2 := below_step HB1.out (HB1.out.mono (Nat.le_refl _) |> fun _ => hinv.2)
      have HA := Aside0.mk (show AddInv w0 w g s (rounds s ws 64) r n 0 wr from by
        refine ⟨?_, below_step HB.out hb2, KeepBut.of_below hb2 g none⟩
        rw [List.take_zero, List.zipWith_nil_left, List.nil_append, List.drop_zero]
        exact HI1.out.below hinv.2)
      have HVV := Aside0.mk (show rounds s ws 64 = [v0, v1, v2, v3, v4, v5, v6, v7] by have h := HV.out; rwa [HKE.out] at h)
      clear hv hU hinv hinv' hw hlt hk hb2
      have hdk : decide ((k : Int) < 64) = false := decide_eq_false (by omega)
      go_wp2
      clear hge hdk c0 c1 c2 c3 c4 c5 c6 c7
      go_loopw [13, 14, 104] (fun _ _ i wx => ∃ j : Nat, j ≤ 8 ∧ i = .int .i64 j ∧ AddInv w0 w g s (rounds s ws 64) r n j wx) (fun _ _ i _ => 8 - (intOf i).toNat)
      case atStart => exact ⟨0, by omega, rfl, HA.out⟩
      case round =>
        clear HA
        obtain ⟨j, hj, rfl, hinv⟩ := hrel
        have HA := Aside0.mk hinv
        by_cases hlt : j < 8
        · have hc := hinv.cell hlt HLS.out (rounds_len HLS.out ws 64)
          have hf : wr.drew.frozen? ⟨g, 1 + j, none⟩ = false := hinv.1.free (1 + j)
          have hd : wr.drew.cell? ⟨g, 1 + j, none⟩ = some (.int .u32 (s.getD j 0)) := hc
          have hN := fun X => hinv.next (X := X) hlt HLS.out (rounds_len HLS.out ws 64)
          have HN := Aside0.mk hN
          clear hN hinv
          have h8 : j = 0 ∨ j = 1 ∨ j = 2 ∨ j = 3 ∨ j = 4 ∨ j = 5 ∨ j = 6 ∨ j = 7 := by omega
          clear hj hlt HA
          rw [HS.out] at hc hd
          rcases h8 with rfl | rfl | rfl | rfl | rfl | rfl | rfl | rfl
          · dsimp only [List.getD_cons_zero, List.getD_cons_succ, Nat.reduceAdd] at hc hd hf
            have ij : ∀ w, (Instr.index 107 (.agg #[.int .u32 v0, .int .u32 v1, .int .u32 v2, .int .u32 v3, .int .u32 v4, .int .u32 v5, .int .u32 v6, .int .u32 v7]) (.int .i64 0)).run Try.prog w = .ok (.int .u32 v0) w := fun _ => by kernel_rfl
            go_wp2
            go_still_tail 11, (by kernel_rfl)
            change wpList _ _ _ _ _ wr.drew
            obtain ⟨w2, hw2⟩ : ∃ w2, wr.drew = w2 := ⟨_, rfl⟩
            have HW2 := Aside0.mk hw2
            rw [hw2] at hf hd ⊢
            clear hw2
            go_wp2
            go_roundw
            case rel =>
              refine ⟨1, by omega, rfl, ?_⟩
              rw [← HW2.out]
              exact HN.out _ (by rw [HVV.out, HS.out]; rfl)
            case measure => simp [intOf]
          · dsimp only [List.getD_cons_zero, List.getD_cons_succ, Nat.reduceAdd] at hc hd hf
            have ij : ∀ w, (Instr.index 107 (.agg #[.int .u32 v0, .int .u32 v1, .int .u32 v2, .int .u32 v3, .int .u32 v4, .int .u32 v5, .int .u32 v6, .int .u32 v7]) (.int .i64 1)).run Try.prog w = .ok (.int .u32 v1) w := fun _ => by kernel_rfl
            go_wp2
            go_still_tail 11, (by kernel_rfl)
            change wpList _ _ _ _ _ wr.drew
            obtain ⟨w2, hw2⟩ : ∃ w2, wr.drew = w2 := ⟨_, rfl⟩
            have HW2 := Aside0.mk hw2
            rw [hw2] at hf hd ⊢
            clear hw2
            go_wp2
            go_roundw
            case rel =>
              refine ⟨2, by omega, rfl, ?_⟩
              rw [← HW2.out]
              exact HN.out _ (by rw [HVV.out, HS.out]; rfl)
            case measure => simp [intOf]
          · dsimp only [List.getD_cons_zero, List.getD_cons_succ, Nat.reduceAdd] at hc hd hf
            have ij : ∀ w, (Instr.index 107 (.agg #[.int .u32 v0, .int .u32 v1, .int .u32 v2, .int .u32 v3, .int .u32 v4, .int .u32 v5, .int .u32 v6, .int .u32 v7]) (.int .i64 2)).run Try.prog w = .ok (.int .u32 v2) w := fun _ => by kernel_rfl
            go_wp2
            go_still_tail 11, (by kernel_rfl)
            change wpList _ _ _ _ _ wr.drew
            obtain ⟨w2, hw2⟩ : ∃ w2, wr.drew = w2 := ⟨_, rfl⟩
            have HW2 := Aside0.mk hw2
            rw [hw2] at hf hd ⊢
            clear hw2
            go_wp2
            go_roundw
            case rel =>
              refine ⟨3, by omega, rfl, ?_⟩
              rw [← HW2.out]
              exact HN.out _ (by rw [HVV.out, HS.out]; rfl)
            case measure => simp [intOf]
          · dsimp only [List.getD_cons_zero, List.getD_cons_succ, Nat.reduceAdd] at hc hd hf
            have ij : ∀ w, (Instr.index 107 (.agg #[.int .u32 v0, .int .u32 v1, .int .u32 v2, .int .u32 v3, .int .u32 v4, .int .u32 v5, .int .u32 v6, .int .u32 v7]) (.int .i64 3)).run Try.prog w = .ok (.int .u32 v3) w := fun _ => by kernel_rfl
            go_wp2
            go_still_tail 11, (by kernel_rfl)
            change wpList _ _ _ _ _ wr.drew
            obtain ⟨w2, hw2⟩ : ∃ w2, wr.drew = w2 := ⟨_, rfl⟩
            have HW2 := Aside0.mk hw2
            rw [hw2] at hf hd ⊢
            clear hw2
            go_wp2
            go_roundw
            case rel =>
              refine ⟨4, by omega, rfl, ?_⟩
              rw [← HW2.out]
              exact HN.out _ (by rw [HVV.out, HS.out]; rfl)
            case measure => simp [intOf]
          · dsimp only [List.getD_cons_zero, List.getD_cons_succ, Nat.reduceAdd] at hc hd hf
            have ij : ∀ w, (Instr.index 107 (.agg #[.int .u32 v0, .int .u32 v1, .int .u32 v2, .int .u32 v3, .int .u32 v4, .int .u32 v5, .int .u32 v6, .int .u32 v7]) (.int .i64 4)).run Try.prog w = .ok (.int .u32 v4) w := fun _ => by kernel_rfl
            go_wp2
            go_still_tail 11, (by kernel_rfl)
            change wpList _ _ _ _ _ wr.drew
            obtain ⟨w2, hw2⟩ : ∃ w2, wr.drew = w2 := ⟨_, rfl⟩
            have HW2 := Aside0.mk hw2
            rw [hw2] at hf hd ⊢
            clear hw2
            go_wp2
            go_roundw
            case rel =>
              refine ⟨5, by omega, rfl, ?_⟩
              rw [← HW2.out]
              exact HN.out _ (by rw [HVV.out, HS.out]; rfl)
            case measure => simp [intOf]
          · dsimp only [List.getD_cons_zero, List.getD_cons_succ, Nat.reduceAdd] at hc hd hf
            have ij : ∀ w, (Instr.index 107 (.agg #[.int .u32 v0, .int .u32 v1, .int .u32 v2, .int .u32 v3, .int .u32 v4, .int .u32 v5, .int .u32 v6, .int .u32 v7]) (.int .i64 5)).run Try.prog w = .ok (.int .u32 v5) w := fun _ => by kernel_rfl
            go_wp2
            go_still_tail 11, (by kernel_rfl)
            change wpList _ _ _ _ _ wr.drew
            obtain ⟨w2, hw2⟩ : ∃ w2, wr.drew = w2 := ⟨_, rfl⟩
            have HW2 := Aside0.mk hw2
            rw [hw2] at hf hd ⊢
            clear hw2
            go_wp2
            go_roundw
            case rel =>
              refine ⟨6, by omega, rfl, ?_⟩
              rw [← HW2.out]
              exact HN.out _ (by rw [HVV.out, HS.out]; rfl)
            case measure => simp [intOf]
          · dsimp only [List.getD_cons_zero, List.getD_cons_succ, Nat.reduceAdd] at hc hd hf
            have ij : ∀ w, (Instr.index 107 (.agg #[.int .u32 v0, .int .u32 v1, .int .u32 v2, .int .u32 v3, .int .u32 v4, .int .u32 v5, .int .u32 v6, .int .u32 v7]) (.int .i64 6)).run Try.prog w = .ok (.int .u32 v6) w := fun _ => by kernel_rfl
            go_wp2
            go_still_tail 11, (by kernel_rfl)
            change wpList _ _ _ _ _ wr.drew
            obtain ⟨w2, hw2⟩ : ∃ w2, wr.drew = w2 := ⟨_, rfl⟩
            have HW2 := Aside0.mk hw2
            rw [hw2] at hf hd ⊢
            clear hw2
            go_wp2
            go_roundw
            case rel =>
              refine ⟨7, by omega, rfl, ?_⟩
              rw [← HW2.out]
              exact HN.out _ (by rw [HVV.out, HS.out]; rfl)
            case measure => simp [intOf]
          · dsimp only [List.getD_cons_zero, List.getD_cons_succ, Nat.reduceAdd] at hc hd hf
            have ij : ∀ w, (Instr.index 107 (.agg #[.int .u32 v0, .int .u32 v1, .int .u32 v2, .int .u32 v3, .int .u32 v4, .int .u32 v5, .int .u32 v6, .int .u32 v7]) (.int .i64 7)).run Try.prog w = .ok (.int .u32 v7) w := fun _ => by kernel_rfl
            go_wp2
            go_still_tail 11, (by kernel_rfl)
            change wpList _ _ _ _ _ wr.drew
            obtain ⟨w2, hw2⟩ : ∃ w2, wr.drew = w2 := ⟨_, rfl⟩
            have HW2 := Aside0.mk hw2
            rw [hw2] at hf hd ⊢
            clear hw2
            go_wp2
            go_roundw
            case rel =>
              refine ⟨8, by omega, rfl, ?_⟩
              rw [← HW2.out]
              exact HN.out _ (by rw [HVV.out, HS.out]; rfl)
            case measure => simp [intOf]
        · have hj8 := Aside0.mk (show j = 8 by omega)
          have hge : 8 ≤ j := by omega
          clear hinv hlt hj
          go_wp2
          go_end0
          have h := HA.out
          rw [hj8.out] at h
          refine ⟨rfl, ?_, h.2⟩
          have h1 := h.1
          rw [List.take_of_length_le (by rw [HLS.out]; omega), List.drop_of_length_le (by rw [HLS.out]; omega), List.append_nil, ← HWE.out] at h1
          exact h1
end Go.Proofs.Ytfpkgdenohcglaa.Sha
/- sha: roots, New and Write walked. -/
namespace Go.Proofs.Ytfpkgdenohcglaa.Sha
set_option linter.unusedVariables false
open Go.RowKit Go.Proofs.Ytfpkgdenohcglaa.Base Go.Proofs.Ytfpkgdenohcglaa.ShaPlain Go.Proofs.Ytfpkgdenohcglaa.Aid Go.Proofs.YtfpkgdenohcglaaW.PrintWords Go.Proofs.YtfpkgdenohcglaaW.PrintLast Go.Proofs.YtfpkgdenohcglaaW.PrintMore
set_option maxHeartbeats 2000000 in
set_option maxRecDepth 100000 in
theorem roots_c (w : World) : Calls Try.prog 114 #[] w fun e w' => ∃ p : Nat, e = .returned (.pointer (some ⟨p, 0, none⟩)) ∧ w.heap.size ≤ p ∧ Words w' p 119 keys ∧ Below w.heap.size w w' := by
  go_enter Try.func114, Try.ntmps114
  go_wp2
  go_ret
  exact ⟨_, rfl, Nat.le_refl _, blk_new _ _, below_alloc (Below.refl _ _) _⟩
set_option maxHeartbeats 2000000 in
set_option maxRecDepth 100000 in
theorem new_c (w : World) : Calls Try.prog 108 #[] w fun e w' => ∃ g : Nat, e = .returned (.pointer (some ⟨g, 0, none⟩)) ∧ Hsh w w' g true ShaPlain.start (List.replicate 64 0) 0 ∧ Below w.heap.size w w' := by
  go_enter Try.func108, Try.ntmps108
  go_wp2
  go_ret
  exact ⟨_, rfl, ⟨Nat.le_refl _, blk_new _ _, rfl, by simp, start_u32, fun x hx => by rw [List.eq_of_mem_replicate hx]; omega⟩, below_alloc (Below.refl _ _) _⟩
/-- A Hash's state: the eight words, the block under way, how many bytes there were. -/
abbrev St := List Int × List Int × Nat
def put (st : St) (c : Int) : St := (if st.2.2 % 64 = 63 then press st.1 (st.2.1.set (st.2.2 % 64) c) else st.1, st.2.1.set (st.2.2 % 64) c, st.2.2 + 1)
theorem put_n (st : St) (c : Int) : (put st c).2.2 = st.2.2 + 1 := rfl
theorem puts_n (l : List Int) : ∀ st : St, (l.foldl put st).2.2 = st.2.2 + l.length := by
  induction l with
  | nil => intro st; rfl
  | cons c l ih => intro st; rw [List.foldl_cons, ih, put_n, List.length_cons]; omega
def HS (w0 w : World) (g : Nat) (st : St) : Prop := Hsh w0 w g true st.1 st.2.1 st.2.2
/-- What a Write under way has left. -/
def WInv (w0 w : World) (g kb : Nat) (st : St) (wx : World) : Prop := HS w0 wx g st ∧ Below w0.heap.size w0 wx ∧ KeepBut w wx g none ∧ Words wx kb 119 keys
theorem WInv.byte {w0 w wr : World} {g kb : Nat} {s r : List Int} {n m : Nat} {x : Int} (h : WInv w0 w g kb (s, r, n) wr) (hm : m < 64) (hx : 0 ≤ x ∧ x ≤ 255) (hkb : kb ≠ g) :
    WInv w0 w g kb (s, r.set m x, n + 1) ((wr.setCell ⟨g, 9 + m, none⟩ (.int .u8 x)).setCell ⟨g, 73, none⟩ (.int .u64 ((n : Int) + 1))) := by
  have h1 := (Hsh.set_rest h.1 m x hm hx).set_n ((n : Int) + 1)
  have hk1 : KeepBut wr ((wr.setCell ⟨g, 9 + m, none⟩ (.int .u8 x)).setCell ⟨g, 73, none⟩ (.int .u64 ((n : Int) + 1))) g none := ((KeepBut.refl wr g none).set_ _ _).set_ _ _
  exact ⟨h1, below_set (below_set h.2.1 h.1.1) h.1.1, h.2.2.1.trans hk1 (.inl rfl), hk1.blk h.2.2.2 hkb (by simp)⟩
theorem foldl_snoc {st : St} {b : List Int} {k : Nat} (hk : k < b.length) : List.foldl put st (b.take (k + 1)) = put (List.foldl put st (b.take k)) b[k] := by
  rw [take_snoc b k hk, List.foldl_append]; rfl
set_option maxHeartbeats 4000000 in
set_option maxRecDepth 100000 in
theorem write_c (w0 w : World) (g : Nat) (st : St) (A : Option Addr) (c : Nat) (b : List Int) (h : HS w0 w g st) (hB : Below w0.heap.size w0 w) (hr : Rb w A b) (hc : b.length ≤ c) (hu : ∀ x ∈ b, 0 ≤ x ∧ x ≤ 255) (hne : ∀ a, A = some a → 0 < b.length → a.block ≠ g) (hn : st.2.2 + b.length ≤ 1152921504606846976) :
    Calls Try.prog 109 #[.pointer (some ⟨g, 0, none⟩), .slice A b.length c] w fun e w' => e = .returned (.tuple #[]) ∧ HS w0 w' g (b.foldl put st) ∧ Below w0.heap.size w0 w' ∧ KeepBut w w' g none := by
  have c0 : w.cell? ⟨g, 0, none⟩ = some (.bool true) := h.made_
  have HH := Aside0.mk h
  have HB := Aside0.mk hB
  have HR := Aside0.mk hr
  have HC := Aside0.mk hc
  have HU := Aside0.mk hu
  have HNE := Aside0.mk hne
  have HN := Aside0.mk hn
  have hlen : b.length ≤ 1152921504606846976 := by omega
  clear h hB hr hc hu hne hn
  go_enter Try.func109, Try.ntmps109
  go_wp2_with (fail)
  refine (roots_c _).mono ?_
  rintro e w1 ⟨kb, rfl, hkb, hk, hb⟩
  have H0 := Aside0.mk (show WInv w0 w g kb (List.foldl put st (b.take 0)) w1 from ⟨HH.out.below hb, below_step HB.out hb, KeepBut.of_below hb g none, hk⟩)
  have HKB := Aside0.mk (show kb ≠ g by have := HH.out.lt; omega)
  clear hkb hk hb c0
  go_wp2
  go_loopw [6, 7, 20] (fun _ _ i wx => ∃ k : Nat, k ≤ b.length ∧ i = .int .i64 k ∧ WInv w0 w g kb (List.foldl put st (b.take k)) wx) (fun _ _ i _ => b.length - (intOf i).toNat)
  case atStart => exact ⟨0, by omega, rfl, H0.out⟩
  case round =>
    clear H0
    obtain ⟨k, hk, rfl, hinv⟩ := hrel
    have HI := Aside0.mk hinv
    by_cases hlt : k < b.length
    · obtain ⟨ad, rfl, hcell⟩ := Kd.at_int HR.out k (by omega) (by omega)
      obtain ⟨x, hx⟩ : ∃ x, b[k] = x := ⟨_, rfl⟩
      have HX := Aside0.mk hx
      rw [rd_nat b k hlt, hx, Int.toNat_natCast] at hcell
      have hcx : wr.cell? (ad.add k) = some (.int .u8 x) := keep_cell hinv.2.2.1 hcell (by
        rw [show (ad.add k).block = ad.block from by unfold Addr.add; split <;> rfl]
        exact HNE.out ad rfl (by omega))
      have hxr := HU.out x (by rw [← hx]; exact List.getElem_mem hlt)
      have hpn := puts_n (b.take k) st
      obtain ⟨stk, hst⟩ : ∃ z, List.foldl put st (b.take k) = z := ⟨_, rfl⟩
      have HST := Aside0.mk hst
      rw [hst] at hinv hpn HI
      obtain ⟨s, r, n⟩ := stk
      rw [List.length_take, Nat.min_eq_left hk] at hpn
      have hn' : n ≤ 1152921504606846976 := by have := HN.out; dsimp only at hpn; omega
      obtain ⟨m, hm⟩ : ∃ m, n % 64 = m := ⟨_, rfl⟩
      have HM := Aside0.mk hm
      have hm64 : m < 64 := by omega
      have hmi : (n : Int) % 64 = (m : Int) := by omega
      have hn0 : (0 : Int) ≤ (n : Int) := by omega
      have hnw : IntKind.u64.wrap ((n : Int) + 1) = ((n + 1 : Nat) : Int) := IntWalk.u64_in _ (by omega)
      have cn : wr.cell? ⟨g, 73, none⟩ = some (.int .u64 (n : Int)) := hinv.1.n_
      have cr : wr.cell? ⟨g, 9 + m, none⟩ = some (.int .u8 (r.getD m 0)) := hinv.1.rest m hm64
      have fr := hinv.1.free (9 + m)
      have H1 := Hsh.set_rest hinv.1 m x hm64 hxr
      have cn1 : (wr.setCell ⟨g, 9 + m, none⟩ (.int .u8 x)).cell? ⟨g, 73, none⟩ = some (.int .u64 (n : Int)) := H1.n_
      have fn1 := H1.free 73
      have m0 : (0 : Int) ≤ (m : Int) := by omega
      have m1 : (m : Int) < 64 := by omega
      clear hx hcell hpn hst hm hinv H1
      by_cases h63 : m = 63
      · have hb63 : ((m : Int) == 63) = true := by simp; omega
        have HXR := Aside0.mk hxr
        have HM64 := Aside0.mk hm64
        have H63 := Aside0.mk h63
        clear h63 hm64 hxr
        go_wp2_with (fail)
        have hB := WInv.byte HI.out HM64.out HXR.out HKB.out
        refine (mix_c w0 _ g kb s (r.set m x) ((n : Int) + 1) (show Hsh w0 _ g true s (r.set m x) ((n : Int) + 1) from hB.1) hB.2.1 hB.2.2.2 HKB.out).mono ?_
        rintro e w2 ⟨rfl, h1, h2, h3⟩
        have HF := Aside0.mk (show WInv w0 w g kb (List.foldl put st (b.take (k + 1))) w2 from by
          rw [foldl_snoc hlt, HST.out, HX.out]
          have e : put (s, r, n) x = (press s (r.set m x), r.set m x, n + 1) := by
            unfold put
            dsimp only
            rw [HM.out, if_pos H63.out]
          rw [e]
          exact ⟨h1, h2, hB.2.2.1.trans h3 (.inl rfl), h3.blk hB.2.2.2 HKB.out (by simp)⟩)
        clear h1 h2 h3 hB cn cr fr cn1 fn1
        go_wp2
        go_roundw
        case rel => exact ⟨k + 1, by omega, by go_num, HF.out⟩
        case measure => simp [intOf]; omega
      · have hb63 : ((m : Int) == 63) = false := by simp; omega
        have HF := Aside0.mk (show WInv w0 w g kb (List.foldl put st (b.take (k + 1))) ((wr.setCell ⟨g, 9 + m, none⟩ (.int .u8 x)).setCell ⟨g, 73, none⟩ (.int .u64 ((n : Int) + 1))) from by
          rw [foldl_snoc hlt, HST.out, HX.out]
          have e : put (s, r, n) x = (s, r.set m x, n + 1) := by
            unfold put
            dsimp only
            rw [HM.out, if_neg h63]
          rw [e]
          exact WInv.byte HI.out hm64 hxr HKB.out)
        go_wp2
        go_roundw
        case rel => exact ⟨k + 1, by omega, by go_num, HF.out⟩
        case measure => simp [intOf]; omega
    · have HKE := Aside0.mk (show b.take k = b from List.take_of_length_le (by omega))
      have hge : b.length ≤ k := by omega
      clear hinv hlt
      go_wp2
      go_end0
      have h := HI.out
      rw [HKE.out] at h
      exact ⟨rfl, h.1, h.2.1, h.2.2.1⟩
end Go.Proofs.Ytfpkgdenohcglaa.Sha
/- sha: Sum walked. -/
namespace Go.Proofs.Ytfpkgdenohcglaa.Sha
set_option linter.unusedVariables false
open Go.RowKit Go.Proofs.Ytfpkgdenohcglaa.Base Go.Proofs.Ytfpkgdenohcglaa.ShaPlain Go.Proofs.Ytfpkgdenohcglaa.Aid Go.Proofs.YtfpkgdenohcglaaW.PrintWords Go.Proofs.YtfpkgdenohcglaaW.PrintLast Go.Proofs.YtfpkgdenohcglaaW.PrintMore
/-- What is put behind a text of n bytes. -/
def sizeB (m : Nat) : List Int := (List.range 8).map fun i => ((m / 2 ^ (56 - 8 * i) % 256 : Nat) : Int)
def padB (n : Nat) : List Int := 128 :: (List.replicate ((119 - n % 64) % 64) 0 ++ sizeB (8 * n))
def outN (s : List Int) : Nat → List Int
  | 0 => List.replicate 32 0
  | k + 1 => (outN s k).set k (s.getD (k / 4) 0 / 2 ^ (24 - 8 * (k % 4)) % 256)
def outB (s : List Int) : List Int := outN s 32
theorem outN_len (s : List Int) : ∀ k, (outN s k).length = 32
  | 0 => by simp [outN]
  | k + 1 => by simp [outN, outN_len s k]
theorem outN_u8 (s : List Int) : ∀ k, ∀ x ∈ outN s k, 0 ≤ x ∧ x ≤ 255
  | 0 => fun x hx => by rw [outN] at hx; rw [List.eq_of_mem_replicate hx]; omega
  | k + 1 => fun x hx => (List.mem_or_eq_of_mem_set hx).elim (outN_u8 s k x) (fun e => by subst e; omega)
def sumB (st : St) : List Int := outB ((padB st.2.2).foldl put st).1
theorem info_hash : (Try.prog.info? 136).map (·.size) = some 74 := by kernel_rfl
theorem info_32 : (Try.prog.info? 23).map (·.size) = some 32 := by kernel_rfl
theorem hashC_one {made : Bool} {s r : List Int} {n : Int} : (hashC made s r n).toArray.all (·.oneCell') = true := by
  refine all_oneCell_toArray fun v hv => ?_
  simp only [hashC, nums, List.mem_cons, List.mem_append, List.mem_map, List.not_mem_nil, or_false] at hv
  rcases hv with rfl | ⟨x, _, rfl⟩ | ⟨x, _, rfl⟩ | rfl <;> rfl
/-- Sum under way: the copy, and the two cells of the answer. -/
def SInv (w : World) (g p2 p3 : Nat) (st : St) (W : World) : Prop :=
  HS w W g st ∧ Below w.heap.size w W ∧ W.heap[p2]? = some (.cells (nums .u8 (List.replicate 32 0)).toArray 23 (0, 0)) ∧ W.heap[p3]? = some (.cells (nums .u8 (List.replicate 32 0)).toArray 23 (0, 0)) ∧ p2 ≠ g ∧ p3 ≠ g ∧ p2 ≠ p3 ∧ w.heap.size ≤ p2 ∧ w.heap.size ≤ p3
theorem copy_block (w : World) (Z Z' : Obj) (C0 C : Array Value) (T : Nat) : (((w.alloc Z).alloc Z').alloc (.cells C0 T)).setRow (w.heap.size + 1 + 1) C = ((w.alloc Z).alloc Z').alloc (.cells C T) := by
  have h := World.setRow_alloc_new ((w.alloc Z).alloc Z') C0 C T
  simpa using h
theorem third_new (w : World) (Z Z' o : Obj) : (((w.alloc Z).alloc Z').alloc o).heap[w.heap.size + 1 + 1]? = some o := by
  have h := blk_new ((w.alloc Z).alloc Z') o
  simpa using h
theorem SInv.start {w : World} {s r : List Int} {n : Nat} (hs : s.length = 8) (hr : r.length = 64) (hsu : U32 s) (hru : ∀ x ∈ r, 0 ≤ x ∧ x ≤ 255) {C : Array Value} (hC : (hashC true s r (n : Int)).toArray = C) :
    SInv w (w.heap.size + 1 + 1) w.heap.size (w.heap.size + 1) (s, r, n) (((w.alloc (.cells (nums .u8 (List.replicate 32 0)).toArray 23)).alloc (.cells (nums .u8 (List.replicate 32 0)).toArray 23)).alloc (.cells C 136)) := by
  subst hC
  have e1 : (w.alloc (.cells (nums .u8 (List.replicate 32 0)).toArray 23)).heap.size = w.heap.size + 1 := by simp
  have e2 : ((w.alloc (.cells (nums .u8 (List.replicate 32 0)).toArray 23)).alloc (.cells (nums .u8 (List.replicate 32 0)).toArray 23)).heap.size = w.heap.size + 1 + 1 := by simp
  refine ⟨⟨by omega, ?_, hs, hr, hsu, hru⟩, below_alloc (below_alloc (below_alloc (Below.refl _ _) _) _) _, ?_, ?_, by omega, by omega, by omega, by omega, by omega⟩
  · rw [← e2]; exact blk_new _ _
  · exact blk_alloc (blk_alloc (blk_new w _) _) _
  · have h := blk_new (w.alloc (.cells (nums .u8 (List.replicate 32 0)).toArray 23)) (.cells (nums .u8 (List.replicate 32 0)).toArray 23)
    rw [e1] at h
    exact blk_alloc h _
theorem one_u8 (w : World) (x : Int) (T : Nat) : Rb (w.alloc (.cells #[.int .u8 x] T)) (some ⟨w.heap.size, 0, none⟩) [x] := by
  refine Kd.C_of_reads (d := (0 : Int)) ⟨rfl, by simp, fun _ => ⟨_, rfl, fun j hj => ?_⟩⟩
  have h0 : j = 0 := by simp at hj; exact hj
  subst h0
  rw [show (⟨w.heap.size, 0, none⟩ : Addr).add 0 = ⟨w.heap.size, 0, none⟩ from rfl]
  simp [World.cell?_alloc_new]
theorem write1 {w W : World} {g p2 p3 : Nat} {st : St} (h : SInv w g p2 p3 st W) (x : Int) (hx : 0 ≤ x ∧ x ≤ 255) (T : Nat) (hn : st.2.2 ≤ 2000000000000) :
    Calls Try.prog 109 #[.pointer (some ⟨g, 0, none⟩), .slice (some ⟨W.heap.size, 0, none⟩) 1 1] (W.alloc (.cells #[.int .u8 x] T)) fun e w' => e = .returned (.tuple #[]) ∧ SInv w g p2 p3 (put st x) w' := by
  obtain ⟨h1, h2, h3, h4, h5, h6, h7, h8, h9⟩ := h
  have hb : Below W.heap.size W (W.alloc (.cells #[.int .u8 x] T)) := below_alloc (Below.refl _ _) _
  refine (write_c w _ g st (some ⟨W.heap.size, 0, none⟩) 1 [x] (Hsh.below h1 hb) (below_step h2 hb) (one_u8 W x T) (by simp) (by simpa using hx) (fun a ha _ => by have := Hsh.lt h1; injection ha with ha; subst ha; exact Nat.ne_of_gt this) (by simp only [List.length_cons, List.length_nil]; omega)).mono ?_
  rintro e w' ⟨rfl, k1, k2, k3⟩
  exact ⟨rfl, k1, k2, k3.blk (blk_below h3 hb) h5 (by simp), k3.blk (blk_below h4 hb) h6 (by simp), h5, h6, h7, h8, h9⟩
/-- The answer's bytes under way. -/
def OInv (w : World) (g p2 p3 : Nat) (st : St) (k : Nat) (W : World) : Prop :=
  HS w W g st ∧ Below w.heap.size w W ∧ W.heap[p2]? = some (.cells (nums .u8 (List.replicate 32 0)).toArray 23 (0, 0)) ∧ W.heap[p3]? = some (.cells (nums .u8 (outN st.1 k)).toArray 23 (0, 0)) ∧ p3 ≠ g ∧ p2 ≠ p3 ∧ w.heap.size ≤ p2 ∧ w.heap.size ≤ p3
theorem OInv.next {w W : World} {g p2 p3 k : Nat} {st : St} (h : OInv w g p2 p3 st k W) {x : Int} (hx : x = st.1.getD (k / 4) 0 / 2 ^ (24 - 8 * (k % 4)) % 256) : OInv w g p2 p3 st (k + 1) (W.setCell ⟨p3, k, none⟩ (.int .u8 x)) := by
  subst hx
  obtain ⟨h1, h2, h3, h4, h5, h6, h7, h8⟩ := h
  have hk : KeepBut W (W.setCell ⟨p3, k, none⟩ (.int .u8 (st.1.getD (k / 4) 0 / 2 ^ (24 - 8 * (k % 4)) % 256))) p3 none := keep_set _ _ _ _
  refine ⟨Hsh.keep h1 hk (Ne.symm h5), below_set h2 h8, hk.blk h3 h6 (by simp), ?_, h5, h6, h7, h8⟩
  have := blk_set h4 k (.int .u8 (st.1.getD (k / 4) 0 / 2 ^ (24 - 8 * (k % 4)) % 256))
  rw [nums_set] at this
  exact this
theorem nums_one (k : IntKind) (l : List Int) : (nums k l).toArray.all (·.oneCell') = true := by
  refine all_oneCell_toArray fun v hv => ?_
  obtain ⟨x, _, rfl⟩ := List.mem_map.1 hv
  rfl
theorem snoc_at {st : St} {L : List Int} {k : Nat} {x : Int} (hk : k < L.length) (hx : L.getD k 0 = x) : put (List.foldl put st (L.take k)) x = List.foldl put st (L.take (k + 1)) := by
  rw [foldl_snoc hk, ← hx, List.getD_eq_getElem?_getD, List.getElem?_eq_getElem hk]; rfl
theorem sizeB_len (m : Nat) : (sizeB m).length = 8 := by simp [sizeB]
theorem take_n (st : St) (L : List Int) (k : Nat) : (List.foldl put st (L.take k)).2.2 ≤ st.2.2 + k := by
  rw [puts_n, List.length_take]; omega
set_option maxHeartbeats 8000000 in
set_option maxRecDepth 100000 in
theorem sum_c (w : World) (g : Nat) (st : St) (h : w.heap[g]? = some (.cells (hashC true st.1 st.2.1 st.2.2).toArray 136 (0, 0))) (hs : st.1.length = 8) (hr : st.2.1.length = 64) (hsu : U32 st.1) (hru : ∀ x ∈ st.2.1, 0 ≤ x ∧ x ≤ 255) (hn : st.2.2 ≤ 1000000000000) :
    Calls Try.prog 110 #[.pointer (some ⟨g, 0, none⟩)] w fun e w' => e = .returned (.agg (nums .u8 (sumB st)).toArray) ∧ Below w.heap.size w w' := by
  have c0 : w.cell? ⟨g, 0, none⟩ = some (.bool true) := (blk_cell h 0).trans (by simp [hashC])
  obtain ⟨s, r, n⟩ := st
  dsimp only at h hs hr hsu hru hn
  have cn : w.cell? ⟨g, 73, none⟩ = some (.int .u64 (n : Int)) := (blk_cell h 73).trans (by simpa using hashC_n hs hr)
  have hlt := blk_lt h
  have hsz : (hashC true s r (n : Int)).toArray.size = 74 := by simpa using hashC_len hs hr
  have HZ := Aside0.mk hsz
  have HB := Aside0.mk h
  have HL := Aside0.mk (And.intro hs hr)
  have HU := Aside0.mk (And.intro hsu hru)
  have HN := Aside0.mk hn
  have HG := Aside0.mk hlt
  obtain ⟨C, hC⟩ : ∃ C, (hashC true s r (n : Int)).toArray = C := ⟨_, rfl⟩
  have HCC := Aside0.mk hC
  have n0 : (0 : Int) ≤ (n : Int) := by omega
  have n1 : (n : Int) ≤ 1000000000000 := by omega
  have hlt1 : g < w.heap.size + 1 := by omega
  rw [hC] at HB hsz
  have HZS := Aside0.mk (show (Try.prog.info? 136).map (·.size) = some C.size by rw [hsz]; exact info_hash)
  have HZ74 := Aside0.mk (show (74 : Nat) = C.size from hsz.symm)
  have HONE := Aside0.mk (show C.all (·.oneCell') = true by rw [← hC]; exact hashC_one)
  clear h hs hr hsu hru hn hsz hC HZ
  go_enter Try.func110, Try.ntmps110
  have H4 := fun W => fun (hW : ((w.alloc (.cells (nums .u8 (List.replicate 32 0)).toArray 23)).alloc (.cells (nums .u8 (List.replicate 32 0)).toArray 23)).alloc (.cells C 136) = W) => hW ▸ SInv.start (w := w) HL.out.1 HL.out.2 HU.out.1 HU.out.2 HCC.out
  have H4' := Aside0.mk H4
  clear H4
  go_wp2_with (first
    | ((with_reducible refine gate_dst (N := 20) rfl ?_); refine wpList_load_row rfl 136 (.tmp 19) rfl g rfl 136 C (0, 0) _ (by exact blk_alloc (blk_alloc HB.out _) _) Try.underlying136 rfl HZS.out ?_)
    | ((with_reducible refine gate_store (t := 136) (p := 4) (v := .tmp 20) rfl ?_); go_must (refine wpList_store_row rfl 136 (.tmp 4) (.tmp 20) rfl (w.heap.size + 1 + 1) C rfl rfl 136 _ (by exact third_new _ _ _ _) HZS.out (by exact HZ74.out) HONE.out ?_); go_must (rw [copy_block]); go_must (generalize hW : World.alloc _ (Obj.cells C 136) = W); go_must (have HS := Aside0.mk (H4'.out W hW)); clear hW; have cn2 := (HS.out.2.1.cell (p := ⟨g, 73, none⟩) HG.out).trans cn))
  clear c0 cn cn2 hlt hlt1
  obtain ⟨gE, hgE⟩ : ∃ x, w.heap.size + 1 + 1 = x := ⟨_, rfl⟩
  obtain ⟨p3, hp3⟩ : ∃ x, w.heap.size + 1 = x := ⟨_, rfl⟩
  obtain ⟨p2, hp2⟩ : ∃ x, w.heap.size = x := ⟨_, rfl⟩
  rw [hgE, hp3, hp2] at HS
  rw [hgE, hp3, hp2]
  clear hgE hp3 hp2 H4' HB HCC HZS HZ74 HONE
  refine (write1 HS.out 128 (by omega) _ (by have := HN.out; dsimp only; omega)).mono ?_
  rintro e w1 ⟨rfl, h1⟩
  obtain ⟨z, hz⟩ : ∃ z, (119 - n % 64) % 64 = z := ⟨_, rfl⟩
  have HZ := Aside0.mk hz
  have H1 := Aside0.mk h1
  clear h1 hz HS
  go_wp2_with (fail)
  go_loopg [] z (fun gk wx => gk ≤ z ∧ SInv w gE p2 p3 (List.foldl put (put (s, r, n) 128) (List.replicate (z - gk) 0)) wx)
  case atStart => exact ⟨Nat.le_refl _, by rw [Nat.sub_self]; exact H1.out⟩
  case round =>
    clear H1
    obtain ⟨hgk, hinv⟩ := hrel
    have HI := Aside0.mk hinv
    obtain ⟨stz, hst⟩ : ∃ y, List.foldl put (put (s, r, n) 128) (List.replicate (z - gk) 0) = y := ⟨_, rfl⟩
    have hnn : stz.2.2 = n + 1 + (z - gk) := by rw [← hst, puts_n, put_n, List.length_replicate]
    have HST := Aside0.mk hst
    rw [hst] at HI
    have hcn := HI.out.1.n_
    obtain ⟨q, hq⟩ : ∃ q, stz.2.2 % 64 = q := ⟨_, rfl⟩
    have hqi : ((stz.2.2 : Nat) : Int) % 64 = (q : Int) := by omega
    have hz := HZ.out
    have hN := HN.out
    have HQ := Aside0.mk hq
    have HNN := Aside0.mk hnn
    by_cases h56 : q = 56
    · have hbq : ((q : Int) == 56) = true := by simp; omega
      have hbn : ((q : Int) != 56) = false := by simp; omega
      have HGK := Aside0.mk (show z - gk = z by omega)
      clear hinv hst hnn hq h56 hz hN hgk
      have HA := Aside0.mk (show SInv w gE p2 p3 (List.foldl put stz ((sizeB (8 * n)).take 0)) wr from HI.out)
      have HBN := Aside0.mk (show stz.2.2 ≤ 1100000000000 by rw [HNN.out]; have := HZ.out; have := HN.out; omega)
      go_wp2_with (fail)
      clear hcn hqi hbq hbn HI
      go_loopw [6, 34] (fun _ i wx => ∃ k : Nat, k ≤ 8 ∧ i = .int .i64 k ∧ SInv w gE p2 p3 (List.foldl put stz ((sizeB (8 * n)).take k)) wx) (fun _ i _ => 8 - (intOf i).toNat)
      case atStart => exact ⟨0, by omega, rfl, HA.out⟩
      case round =>
        clear HA
        obtain ⟨k, hk, rfl, hinv⟩ := hrel
        have HI := Aside0.mk hinv
        by_cases hlt : k < 8
        · have h8 : k = 0 ∨ k = 1 ∨ k = 2 ∨ k = 3 ∨ k = 4 ∨ k = 5 ∨ k = 6 ∨ k = 7 := by omega
          clear hk hlt hinv
          rcases h8 with rfl | rfl | rfl | rfl | rfl | rfl | rfl | rfl
          · go_wp2_with (fail)
            refine (write1 HI.out _ (by omega) _ (by have := take_n stz (sizeB (8 * n)) 0; have := HBN.out; omega)).mono ?_
            rintro e w2 ⟨rfl, h2⟩
            rw [snoc_at (by rw [sizeB_len]; omega) (by show ((8 * n / 2 ^ (56 - 8 * 0) % 256 : Nat) : Int) = _; simp only [Nat.reduceMul, Nat.reduceSub, Nat.reducePow]; omega)] at h2
            have H2 := Aside0.mk h2
            clear h2
            go_wp2_with (fail)
            go_roundw
            case rel => exact ⟨1, by omega, rfl, H2.out⟩
            case measure => simp [intOf]
          · go_wp2_with (fail)
            refine (write1 HI.out _ (by omega) _ (by have := take_n stz (sizeB (8 * n)) 1; have := HBN.out; omega)).mono ?_
            rintro e w2 ⟨rfl, h2⟩
            rw [snoc_at (by rw [sizeB_len]; omega) (by show ((8 * n / 2 ^ (56 - 8 * 1) % 256 : Nat) : Int) = _; simp only [Nat.reduceMul, Nat.reduceSub, Nat.reducePow]; omega)] at h2
            have H2 := Aside0.mk h2
            clear h2
            go_wp2_with (fail)
            go_roundw
            case rel => exact ⟨2, by omega, rfl, H2.out⟩
            case measure => simp [intOf]
          · go_wp2_with (fail)
            refine (write1 HI.out _ (by omega) _ (by have := take_n stz (sizeB (8 * n)) 2; have := HBN.out; omega)).mono ?_
            rintro e w2 ⟨rfl, h2⟩
            rw [snoc_at (by rw [sizeB_len]; omega) (by show ((8 * n / 2 ^ (56 - 8 * 2) % 256 : Nat) : Int) = _; simp only [Nat.reduceMul, Nat.reduceSub, Nat.reducePow]; omega)] at h2
            have H2 := Aside0.mk h2
            clear h2
            go_wp2_with (fail)
            go_roundw
            case rel => exact ⟨3, by omega, rfl, H2.out⟩
            case measure => simp [intOf]
          · go_wp2_with (fail)
            refine (write1 HI.out _ (by omega) _ (by have := take_n stz (sizeB (8 * n)) 3; have := HBN.out; omega)).mono ?_
            rintro e w2 ⟨rfl, h2⟩
            rw [snoc_at (by rw [sizeB_len]; omega) (by show ((8 * n / 2 ^ (56 - 8 * 3) % 256 : Nat) : Int) = _; simp only [Nat.reduceMul, Nat.reduceSub, Nat.reducePow]; omega)] at h2
            have H2 := Aside0.mk h2
            clear h2
            go_wp2_with (fail)
            go_roundw
            case rel => exact ⟨4, by omega, rfl, H2.out⟩
            case measure => simp [intOf]
          · go_wp2_with (fail)
            refine (write1 HI.out _ (by omega) _ (by have := take_n stz (sizeB (8 * n)) 4; have := HBN.out; omega)).mono ?_
            rintro e w2 ⟨rfl, h2⟩
            rw [snoc_at (by rw [sizeB_len]; omega) (by show ((8 * n / 2 ^ (56 - 8 * 4) % 256 : Nat) : Int) = _; simp only [Nat.reduceMul, Nat.reduceSub, Nat.reducePow]; omega)] at h2
            have H2 := Aside0.mk h2
            clear h2
            go_wp2_with (fail)
            go_roundw
            case rel => exact ⟨5, by omega, rfl, H2.out⟩
            case measure => simp [intOf]
          · go_wp2_with (fail)
            refine (write1 HI.out _ (by omega) _ (by have := take_n stz (sizeB (8 * n)) 5; have := HBN.out; omega)).mono ?_
            rintro e w2 ⟨rfl, h2⟩
            rw [snoc_at (by rw [sizeB_len]; omega) (by show ((8 * n / 2 ^ (56 - 8 * 5) % 256 : Nat) : Int) = _; simp only [Nat.reduceMul, Nat.reduceSub, Nat.reducePow]; omega)] at h2
            have H2 := Aside0.mk h2
            clear h2
            go_wp2_with (fail)
            go_roundw
            case rel => exact ⟨6, by omega, rfl, H2.out⟩
            case measure => simp [intOf]
          · go_wp2_with (fail)
            refine (write1 HI.out _ (by omega) _ (by have := take_n stz (sizeB (8 * n)) 6; have := HBN.out; omega)).mono ?_
            rintro e w2 ⟨rfl, h2⟩
            rw [snoc_at (by rw [sizeB_len]; omega) (by show ((8 * n / 2 ^ (56 - 8 * 6) % 256 : Nat) : Int) = _; simp only [Nat.reduceMul, Nat.reduceSub, Nat.reducePow]; omega)] at h2
            have H2 := Aside0.mk h2
            clear h2
            go_wp2_with (fail)
            go_roundw
            case rel => exact ⟨7, by omega, rfl, H2.out⟩
            case measure => simp [intOf]
          · go_wp2_with (fail)
            refine (write1 HI.out _ (by omega) _ (by have := take_n stz (sizeB (8 * n)) 7; have := HBN.out; omega)).mono ?_
            rintro e w2 ⟨rfl, h2⟩
            rw [snoc_at (by rw [sizeB_len]; omega) (by show ((8 * n / 2 ^ (56 - 8 * 7) % 256 : Nat) : Int) = _; simp only [Nat.reduceMul, Nat.reduceSub, Nat.reducePow]; omega)] at h2
            have H2 := Aside0.mk h2
            clear h2
            go_wp2_with (fail)
            go_roundw
            case rel => exact ⟨8, by omega, rfl, H2.out⟩
            case measure => simp [intOf]
        · have HKE := Aside0.mk (show k = 8 by omega)
          have hge : 8 ≤ k := by omega
          have hdk : decide ((k : Int) < 8) = false := decide_eq_false (by omega)
          obtain ⟨stf, hstf⟩ : ∃ y, List.foldl put stz ((sizeB (8 * n)).take k) = y := ⟨_, rfl⟩
          have HSF := Aside0.mk (show stf = List.foldl put (s, r, n) (padB n) by
            rw [← hstf, HKE.out, ← HST.out, HGK.out, List.take_of_length_le (by rw [sizeB_len]; omega), ← HZ.out]
            rw [padB, List.foldl_cons, List.foldl_append])
          rw [hstf] at HI
          have HO := Aside0.mk (show OInv w gE p2 p3 stf 0 wr from ⟨HI.out.1, HI.out.2.1, HI.out.2.2.1, HI.out.2.2.2.1, HI.out.2.2.2.2.2.1, HI.out.2.2.2.2.2.2.1, HI.out.2.2.2.2.2.2.2.1, HI.out.2.2.2.2.2.2.2.2⟩)
          clear hinv hlt hk hstf HI
          go_wp2_with (fail)
          clear hge hdk
          go_loopw [7, 46] (fun _ i wx => ∃ m : Nat, m ≤ 32 ∧ i = .int .i64 m ∧ OInv w gE p2 p3 stf m wx) (fun _ i _ => 32 - (intOf i).toNat)
          case atStart => exact ⟨0, by omega, rfl, HO.out⟩
          case round =>
            clear HO
            obtain ⟨m, hm, rfl, hinv⟩ := hrel
            have HO := Aside0.mk hinv
            by_cases hlt : m < 32
            · obtain ⟨q, hq⟩ : ∃ q, m / 4 = q := ⟨_, rfl⟩
              have HQ := Aside0.mk hq
              have hc := hinv.1.state q (by omega)
              have hxr := hinv.1.2.2.2.2.1.at q
              have hcell : wr.cell? ⟨p3, m, none⟩ = some (.int .u8 ((outN stf.1 m).getD m 0)) := by
                rw [blk_cell hinv.2.2.2.1 m]
                simp [nums, List.getElem?_eq_getElem (show m < (outN stf.1 m).length by rw [outN_len]; omega), List.getD_eq_getElem?_getD]
              have hfree := blk_frozen hinv.2.2.2.1 m
              obtain ⟨x, hx⟩ : ∃ x, stf.1.getD q 0 = x := ⟨_, rfl⟩
              obtain ⟨old, hold⟩ : ∃ x, (outN stf.1 m).getD m 0 = x := ⟨_, rfl⟩
              rw [hx] at hc hxr
              rw [hold] at hcell
              have HX := Aside0.mk hx
              have x0 := hxr.1
              have x1 := hxr.2
              have hqi : (m : Int) / 4 = (q : Int) := by omega
              have q0 : (0 : Int) ≤ (q : Int) := by omega
              have q1 : (q : Int) < 8 := by omega
              have m0 : (0 : Int) ≤ (m : Int) := by omega
              have m1 : (m : Int) < 32 := by omega
              have hr4 : m % 4 = 0 ∨ m % 4 = 1 ∨ m % 4 = 2 ∨ m % 4 = 3 := by omega
              clear hinv hold hxr hq hx
              rcases hr4 with hr4 | hr4 | hr4 | hr4
              · have hri : (m : Int) % 4 = 0 := by omega
                have HR4 := Aside0.mk hr4
                clear hr4
                go_wp2
                go_roundw
                case rel => exact ⟨m + 1, by omega, by go_num, HO.out.next (by rw [HQ.out, HX.out, HR4.out]; simp only [Nat.reduceMul, Nat.reduceSub, Int.reducePow] <;> omega)⟩
                case measure => simp [intOf]; omega
              · have hri : (m : Int) % 4 = 1 := by omega
                have HR4 := Aside0.mk hr4
                clear hr4
                go_wp2
                go_roundw
                case rel => exact ⟨m + 1, by omega, by go_num, HO.out.next (by rw [HQ.out, HX.out, HR4.out]; simp only [Nat.reduceMul, Nat.reduceSub, Int.reducePow] <;> omega)⟩
                case measure => simp [intOf]; omega
              · have hri : (m : Int) % 4 = 2 := by omega
                have HR4 := Aside0.mk hr4
                clear hr4
                go_wp2
                go_roundw
                case rel => exact ⟨m + 1, by omega, by go_num, HO.out.next (by rw [HQ.out, HX.out, HR4.out]; simp only [Nat.reduceMul, Nat.reduceSub, Int.reducePow] <;> omega)⟩
                case measure => simp [intOf]; omega
              · have hri : (m : Int) % 4 = 3 := by omega
                have HR4 := Aside0.mk hr4
                clear hr4
                go_wp2
                go_roundw
                case rel => exact ⟨m + 1, by omega, by go_num, HO.out.next (by rw [HQ.out, HX.out, HR4.out]; simp only [Nat.reduceMul, Nat.reduceSub, Int.reducePow] <;> omega)⟩
                case measure => simp [intOf]; omega
            · have HM := Aside0.mk (show m = 32 by omega)
              have hge : 32 ≤ m := by omega
              obtain ⟨D, hD⟩ : ∃ D, (nums .u8 (outN stf.1 m)).toArray = D := ⟨_, rfl⟩
              obtain ⟨Z, hZ⟩ : ∃ Z, (nums .u8 (List.replicate 32 0)).toArray = Z := ⟨_, rfl⟩
              have h3 := hinv.2.2.2.1
              have h2 := hinv.2.2.1
              rw [hD] at h3
              rw [hZ] at h2
              have H3 := Aside0.mk h3
              have H2 := Aside0.mk h2
              have hds : D.size = 32 := by rw [← hD]; simp [nums, outN_len]
              have hzs : Z.size = D.size := by rw [hds, ← hZ]; simp [nums]
              have HI := Aside0.mk (show (Try.prog.info? 23).map (·.size) = some D.size by rw [hds]; exact info_32)
              have HZS := Aside0.mk hzs
              have HONE := Aside0.mk (show D.all (·.oneCell') = true by rw [← hD]; exact nums_one _ _)
              have HBL := Aside0.mk (And.intro hinv.2.1 hinv.2.2.2.2.2.2.1)
              have HFIN := Aside0.mk (show D = (nums .u8 (sumB (s, r, n))).toArray by rw [← hD, HM.out, sumB, ← HSF.out]; rfl)
              clear hD hZ h3 h2 hds hzs hlt hm hinv
              go_wp2_with (first
                | ((with_reducible refine gate_dst (N := 63) rfl ?_); refine wpList_load_row rfl 23 (.tmp 3) rfl p3 rfl 23 D (0, 0) _ H3.out Try.underlying23 rfl HI.out ?_)
                | ((with_reducible refine gate_store (t := 23) (p := 2) (v := .tmp 63) rfl ?_); refine wpList_store_row rfl 23 (.tmp 2) (.tmp 63) rfl p2 D rfl rfl 23 Z H2.out HI.out HZS.out HONE.out ?_))
              have HSR := setRow_heap wr p2 Z D _ _ H2.out
              refine bodyPost_ret (v := .agg D) (results_cell_row rfl _ _ p2 23 D (0, 0) _ rfl HSR Try.underlying23 rfl HI.out) rfl ⟨by rw [HFIN.out], below_setRow HBL.out.1 HBL.out.2 D⟩
    · have hbq : ((q : Int) == 56) = false := by simp; omega
      have hbn : ((q : Int) != 56) = true := by simp; omega
      have HGK := Aside0.mk (show 0 < gk by omega)
      have HB := Aside0.mk (show stz.2.2 ≤ 2000000000000 by omega)
      have HGZ := Aside0.mk hgk
      clear hinv hst hnn hq h56 hz hN hgk
      go_wp2_with (fail)
      refine (write1 HI.out 0 (by omega) _ HB.out).mono ?_
      rintro e w2 ⟨rfl, h2⟩
      have H2 := Aside0.mk h2
      clear h2 hcn
      go_wp2_with (fail)
      go_roundg (gk - 1)
      case measure => have := HGK.out; omega
      case rel =>
        refine ⟨by have := HGZ.out; omega, ?_⟩
        rw [show z - (gk - 1) = (z - gk) + 1 from by have := HGZ.out; have := HGK.out; omega, List.replicate_succ', List.foldl_append, HST.out]
        exact H2.out
end Go.Proofs.Ytfpkgdenohcglaa.Sha
/- sha: Of walked. -/
namespace Go.Proofs.Ytfpkgdenohcglaa.Sha
set_option linter.unusedVariables false
open Go.RowKit Go.Proofs.Ytfpkgdenohcglaa.Base Go.Proofs.Ytfpkgdenohcglaa.ShaPlain Go.Proofs.Ytfpkgdenohcglaa.Aid Go.Proofs.YtfpkgdenohcglaaW.PrintWords Go.Proofs.YtfpkgdenohcglaaW.PrintLast Go.Proofs.YtfpkgdenohcglaaW.PrintMore
def st0 : St := (ShaPlain.start, List.replicate 64 0, 0)
/-- The sum of bytes. -/
def shaB (b : List Int) : List Int := sumB (b.foldl put st0)
theorem shaB_len (b : List Int) : (shaB b).length = 32 := outN_len _ _
theorem shaB_u8 (b : List Int) : ∀ x ∈ shaB b, 0 ≤ x ∧ x ≤ 255 := outN_u8 _ _
theorem rows_at {w : World} {A : Option Addr} {l : List (List Int)} (h : Rr w A l) (k : Nat) (hk : k < l.length) : ∃ ad A1 c1, A = some ad ∧ w.cell? (ad.add k) = some (.slice A1 l[k].length c1) ∧ l[k].length ≤ c1 ∧ Rb w A1 l[k] := by
  obtain ⟨ad, hA, hc⟩ := h.2.2 (by omega)
  obtain ⟨cs, hl, ⟨A1, c1, hcs, h2, h3⟩, h4⟩ := hc k l[k] (List.getElem?_eq_getElem hk)
  refine ⟨ad, A1, c1, hA, ?_, h2, h3⟩
  have := h4 0 (.slice A1 l[k].length c1) (by rw [hcs]; rfl)
  rwa [show k * (Kd.slice 5 (Kd.int .u8)).sz + 0 = k from by show k * 1 + 0 = k; omega] at this
theorem reads_lt {w : World} {A : Option Addr} {b : List Int} (h : Rb w A b) : ∀ a, A = some a → 0 < b.length → a.block < w.heap.size := by
  intro a ha h0
  obtain ⟨ad, e, hc⟩ := Kd.at_int h 0 (by omega) (by omega)
  rw [ha] at e
  injection e with e
  subst e
  have := World.block_lt_of_cell? _ _ hc
  rwa [show (a.add (0 : Int).toNat).block = a.block from by unfold Addr.add; split <;> rfl] at this
def OfInv (w : World) (g : Nat) (st : St) (W : World) : Prop := HS w W g st ∧ Below w.heap.size w W ∧ W.heap[w.heap.size]? = some (.cells (nums .u8 (List.replicate 32 0)).toArray 23 (0, 0)) ∧ w.heap.size ≠ g
theorem flat_take (l : List (List Int)) (k : Nat) (hk : k < l.length) : (l.take (k + 1)).flatten = (l.take k).flatten ++ l[k] := by
  rw [Aid.take_snoc l k hk, List.flatten_append]; simp
set_option maxHeartbeats 4000000 in
set_option maxRecDepth 100000 in
theorem of_c (A : Option Addr) (c : Nat) (l : List (List Int)) (w : World) (hr : Rr w A l) (hc : l.length ≤ c) (hu : ∀ p ∈ l, ∀ x ∈ p, 0 ≤ x ∧ x ≤ 255) (hn : l.flatten.length ≤ 1000000000000) (hl : l.length ≤ 4611686018427387904) :
    Calls Try.prog 102 #[.slice A l.length c] w fun e w' => e = .returned (.agg (nums .u8 (shaB l.flatten)).toArray) ∧ Below w.heap.size w w' := by
  have HR := Aside0.mk hr
  have HU := Aside0.mk hu
  have HN := Aside0.mk hn
  clear hr hu hn
  go_enter Try.func102, Try.ntmps102
  go_wp2_with (fail)
  refine (new_c _).mono ?_
  rintro e w1 ⟨g, rfl, hh, hb⟩
  have hz : (w.alloc (.cells (nums .u8 (List.replicate 32 0)).toArray 23)).heap[w.heap.size]? = _ := blk_new w _
  have hsz : (w.alloc (.cells (nums .u8 (List.replicate 32 0)).toArray 23)).heap.size = w.heap.size + 1 := by simp
  have hge : w.heap.size + 1 ≤ g := by rw [← hsz]; exact hh.1
  have H0 := Aside0.mk (show OfInv w g (List.foldl put st0 ((l.take 0).flatten)) w1 from ⟨⟨by omega, hh.2⟩, below_step (below_alloc (Below.refl _ _) _) hb, blk_below hz hb, by omega⟩)
  clear hh hb hz hsz hge
  go_wp2_with (fail)
  go_loopw [5, 9] (fun _ i wx => ∃ k : Nat, k ≤ l.length ∧ i = .int .i64 k ∧ OfInv w g (List.foldl put st0 ((l.take k).flatten)) wx) (fun _ i _ => l.length - (intOf i).toNat)
  case atStart => exact ⟨0, by omega, rfl, H0.out⟩
  case round =>
    clear H0
    obtain ⟨k, hk, rfl, hinv⟩ := hrel
    have HI := Aside0.mk hinv
    by_cases hlt : k < l.length
    · obtain ⟨ad, A1, c1, rfl, hcell, hc1, hrd⟩ := rows_at HR.out k hlt
      have hcw := (hinv.2.1.cell (World.block_lt_of_cell? _ _ hcell)).trans hcell
      have HP := Aside0.mk (Kd.C_below hrd hinv.2.1)
      have HC1 := Aside0.mk hc1
      have HNE := Aside0.mk (show ∀ a, A1 = some a → 0 < l[k].length → a.block ≠ g from fun a ha h0 => by
        have h1 := reads_lt hrd a ha h0
        have h2 := hinv.1.1
        omega)
      have HUK := Aside0.mk (HU.out l[k] (List.getElem_mem hlt))
      have HBN := Aside0.mk (show (List.foldl put st0 ((l.take k).flatten)).2.2 + l[k].length ≤ 1152921504606846976 by
        rw [puts_n]
        have h1 := congrArg List.length (flat_take l k hlt)
        have h2 : l.flatten.length = (l.take (k + 1)).flatten.length + (l.drop (k + 1)).flatten.length := by rw [← List.length_append, ← List.flatten_append, List.take_append_drop]
        have h3 := HN.out
        rw [List.length_append] at h1
        show 0 + (l.take k).flatten.length + _ ≤ _
        omega)
      obtain ⟨p, hp⟩ : ∃ p, l[k] = p := ⟨_, rfl⟩
      have HPE := Aside0.mk hp
      rw [hp] at hcw HP HC1 HNE HUK HBN
      clear hcell hc1 hrd hinv hp
      go_wp2_with (fail)
      refine (write_c w _ g _ A1 c1 p HI.out.1 HI.out.2.1 HP.out HC1.out HUK.out HNE.out HBN.out).mono ?_
      rintro e w2 ⟨rfl, h1, h2, h3⟩
      have HF := Aside0.mk (show OfInv w g (List.foldl put st0 ((l.take (k + 1)).flatten)) w2 from by
        refine ⟨?_, h2, h3.blk HI.out.2.2.1 HI.out.2.2.2 (by simp), HI.out.2.2.2⟩
        rw [flat_take l k hlt, List.foldl_append, HPE.out]
        exact h1)
      clear h1 h2 h3 hcw
      go_wp2_with (fail)
      go_roundw
      case rel => exact ⟨k + 1, by omega, by go_num, HF.out⟩
      case measure => simp [intOf]; omega
    · have HKE := Aside0.mk (show l.take k = l from List.take_of_length_le (by omega))
      have hge : l.length ≤ k := by omega
      have hi := hinv
      rw [HKE.out] at hi
      have HJ := Aside0.mk hi
      clear hinv hlt hk hi HI
      go_wp2_with (fail)
      have hj := HJ.out.1
      have hpn := puts_n l.flatten st0
      refine (sum_c wr g _ hj.2.1 hj.2.2.1 hj.2.2.2.1 hj.2.2.2.2.1 hj.2.2.2.2.2 (by rw [hpn]; have := HN.out; show 0 + _ ≤ _; omega)).mono ?_
      rintro e w3 ⟨rfl, h1⟩
      obtain ⟨D, hD⟩ : ∃ D, (nums .u8 (sumB (List.foldl put st0 l.flatten))).toArray = D := ⟨_, rfl⟩
      have hds : D.size = 32 := by rw [← hD]; simp [nums, sumB, outB, outN_len]
      have HI := Aside0.mk (show (Try.prog.info? 23).map (·.size) = some D.size by rw [hds]; exact info_32)
      have HONE := Aside0.mk (show D.all (·.oneCell') = true by rw [← hD]; exact nums_one _ _)
      have HFIN := Aside0.mk (show (nums .u8 (shaB l.flatten)).toArray = D from hD)
      obtain ⟨Z, hZ⟩ : ∃ Z, (nums .u8 (List.replicate 32 0)).toArray = Z := ⟨_, rfl⟩
      have h2 := blk_below HJ.out.2.2.1 h1
      rw [hZ] at h2
      have H2 := Aside0.mk h2
      have HZS := Aside0.mk (show Z.size = D.size by rw [hds, ← hZ]; simp [nums])
      have HBL := Aside0.mk (below_step HJ.out.2.1 h1)
      rw [hD]
      clear hj hpn hD hds hZ h1 h2
      go_wp2_with ((with_reducible refine gate_store (t := 23) (p := 2) (v := .tmp 18) rfl ?_); refine wpList_store_row rfl 23 (.tmp 2) (.tmp 18) rfl w.heap.size D rfl rfl 23 Z H2.out HI.out HZS.out HONE.out ?_)
      have HSR := setRow_heap w3 w.heap.size Z D _ _ H2.out
      refine bodyPost_ret (v := .agg D) (results_cell_row rfl _ _ w.heap.size 23 D (0, 0) _ rfl HSR Try.underlying23 rfl HI.out) rfl ⟨by rw [HFIN.out], below_setRow HBL.out (Nat.le_refl _) D⟩
end Go.Proofs.Ytfpkgdenohcglaa.Sha
/- sha: Hex walked. -/
namespace Go.Proofs.Ytfpkgdenohcglaa.Sha
set_option linter.unusedVariables false
open Go.RowKit Go.Proofs.Ytfpkgdenohcglaa.Base Go.Proofs.Ytfpkgdenohcglaa.ShaPlain Go.Proofs.Ytfpkgdenohcglaa.Aid Go.Proofs.YtfpkgdenohcglaaW.PrintWords Go.Proofs.YtfpkgdenohcglaaW.PrintLast Go.Proofs.YtfpkgdenohcglaaW.PrintMore
end Go.Proofs.Ytfpkgdenohcglaa.Sha
/- The sums of the page's examples. -/
namespace Go.Proofs.Ytfpkgdenohcglaa.Sha
open Go.RowKit Go.Proofs.Ytfpkgdenohcglaa.Base Go.Proofs.Ytfpkgdenohcglaa.ShaPlain
set_option maxRecDepth 100000
end Go.Proofs.Ytfpkgdenohcglaa.Sha
/- The example of layer 2. -/
namespace Go.Proofs.Ytfpkgdenohcglaa.Sha
set_option linter.unusedVariables false
open Go.RowKit Go.Proofs.Ytfpkgdenohcglaa.Base Go.Proofs.Ytfpkgdenohcglaa.ShaPlain Go.Proofs.Ytfpkgdenohcglaa.Aid Go.Proofs.YtfpkgdenohcglaaW.PrintWords Go.Proofs.YtfpkgdenohcglaaW.PrintLast Go.Proofs.YtfpkgdenohcglaaW.PrintMore
/-- Rows that were written out in memory. -/
theorem lit_rr {w : World} {g T : Nat} {cells : Array Value} (hg : w.heap[g]? = some (.cells cells T (0, 0))) (xs : List (List Int)) (hm : xs.length ≤ 9223372036854775807)
    (hi : ∀ (j : Nat) (l : List Int), xs[j]? = some l → ∃ A c, cells[j]? = some (Value.slice A l.length c) ∧ l.length ≤ c ∧ Rb w A l) : Rr w (some ⟨g, 0, none⟩) xs := by
  refine ⟨rfl, hm, fun _ => ⟨_, rfl, fun j l hj => ?_⟩⟩
  obtain ⟨A, c, h1, h2, h3⟩ := hi j l hj
  refine ⟨[.slice A l.length c], rfl, ⟨A, c, rfl, h2, h3⟩, fun i u hu => ?_⟩
  have hi0 : i = 0 := by
    have := (List.getElem?_eq_some_iff.1 hu).1
    simp at this
    exact this
  subst hi0
  rw [show j * (Kd.slice 5 (Kd.int .u8)).sz + 0 = j from by show j * 1 + 0 = j; omega, add_plain, blk_cell hg, h1]
  exact hu
end Go.Proofs.Ytfpkgdenohcglaa.Sha
/- Whether two sums are the same. -/
namespace Go.Proofs.Ytfpkgdenohcglaa.Sha
set_option linter.unusedVariables false
open Go.RowKit Go.Proofs.Ytfpkgdenohcglaa.Base Go.Proofs.Ytfpkgdenohcglaa.ShaPlain Go.Proofs.Ytfpkgdenohcglaa.Aid Go.Proofs.YtfpkgdenohcglaaW.PrintWords Go.Proofs.YtfpkgdenohcglaaW.PrintLast Go.Proofs.YtfpkgdenohcglaaW.PrintMore
theorem cells_u8 : Try.prog.cellsOf 5 = 1 := by kernel_rfl
theorem plain_u8 : Try.prog.plainKey 5 = true := by kernel_rfl
theorem guard_32 : Try.prog.eqGuardType Try.prog.depth 23 = false := by kernel_rfl
/-- A sum's value. -/
abbrev sumV (a : List Int) : Value := .agg (nums .u8 a).toArray
theorem nums_get (a : List Int) (i : Nat) (hi : i < a.length) : (nums .u8 a).toArray[i]? = some (.int .u8 (a.getD i 0)) := by
  simp [nums, List.getElem?_eq_getElem hi, List.getD_eq_getElem?_getD]
theorem run_items (d : Nat) (a b : List Int) (w : World) : ∀ is : List Nat, (∀ i ∈ is, i < a.length ∧ i < b.length) →
    (Op.eqItems (d + 1) 5 1 (nums .u8 a).toArray (nums .u8 b).toArray is).run Try.prog w = .ok (is.all fun i => a.getD i 0 == b.getD i 0) w := by
  intro is
  induction is with
  | nil => intro _; simp [Op.eqItems]
  | cons i is ih =>
    intro h
    have hi := h i (List.mem_cons_self ..)
    have p1 := run_part_plain (P := Try.prog) (w := w) (e := 5) plain_u8 (nums_get a i hi.1)
    have p2 := run_part_plain (P := Try.prog) (w := w) (e := 5) plain_u8 (nums_get b i hi.2)
    have p3 := run_equalIn_int (P := Try.prog) w d 5 .u8 .u8 (a.getD i 0) (b.getD i 0) Try.underlying5
    have ih' := ih (fun j hj => h j (List.mem_cons_of_mem _ hj))
    simp only [Op.eqItems, Sem.run_bind, Nat.mul_one, p1, p2, p3, Result.andThen_ok, List.all_cons]
    cases e : (a.getD i 0 == b.getD i 0) with
    | false => simp
    | true => simpa using ih'
theorem all_range (a b : List Int) (ha : a.length = 32) (hb : b.length = 32) : ((List.range 32).all fun i => a.getD i 0 == b.getD i 0) = decide (a = b) := by
  rw [Bool.eq_iff_iff, List.all_eq_true, decide_eq_true_eq]
  constructor
  · intro h
    apply List.ext_getElem (by omega)
    intro i h1 h2
    have := h i (List.mem_range.2 (by omega))
    simp only [beq_iff_eq, List.getD_eq_getElem?_getD, List.getElem?_eq_getElem h1, List.getElem?_eq_getElem h2] at this
    exact this
  · rintro rfl i _
    simp
theorem run_eq_sum (a b : List Int) (ha : a.length = 32) (hb : b.length = 32) (w : World) : (Op.equalIn 10000 23 (sumV a) (sumV b)).run Try.prog w = .ok (decide (a = b)) w := by
  obtain ⟨i, hi⟩ := info_of_underlying Try.underlying5
  have h := run_equalIn_array (P := Try.prog) w 9999 (nums .u8 a).toArray (nums .u8 b).toArray Try.underlying23 hi
  rw [h, cells_u8, run_items 9998 a b w (List.range 32) (fun i hi => by have := List.mem_range.1 hi; omega), all_range a b ha hb]
end Go.Proofs.Ytfpkgdenohcglaa.Sha
/- ShaParts: the law's walk. -/
namespace Go.Proofs.Ytfpkgdenohcglaa.Sha
set_option linter.unusedVariables false
open Go.RowKit Go.Proofs.Ytfpkgdenohcglaa.Base Go.Proofs.Ytfpkgdenohcglaa.ShaPlain Go.Proofs.Ytfpkgdenohcglaa.Aid Go.Proofs.YtfpkgdenohcglaaW.PrintWords Go.Proofs.YtfpkgdenohcglaaW.PrintLast Go.Proofs.YtfpkgdenohcglaaW.PrintMore
theorem byte_wf {x : Int} (h : (Lit.int .u8 x).wf = true) : 0 ≤ x ∧ x ≤ 255 := by
  simp only [Lit.wf, IntKind.min, IntKind.max, IntKind.signed, IntKind.bits, Bool.and_eq_true] at h
  have h1 := of_decide_eq_true h.1
  have h2 := of_decide_eq_true h.2
  simp at h1 h2
  omega
end Go.Proofs.Ytfpkgdenohcglaa.Sha
/- Words turned to the right, as regions that draw ask it. -/
namespace Go.Proofs.Ytfpkgdenohcglaa.Sha
set_option linter.unusedVariables false
open Go.RowKit Go.Proofs.Ytfpkgdenohcglaa.Base Go.Proofs.Ytfpkgdenohcglaa.ShaPlain Go.Proofs.YtfpkgdenohcglaaW.PrintWords Go.Proofs.YtfpkgdenohcglaaW.PrintLast Go.Proofs.YtfpkgdenohcglaaW.PrintMore
theorem turnq_2 (x : Int) (w : World) (m : Nat) (h : 0 ≤ x ∧ x ≤ 4294967295) : Calls Try.prog 99 #[.int .u32 x, .int .u64 2] (w.drewN m) fun e w'' => e = .returned (.int .u32 (rot 4 1073741824 x)) ∧ ∃ m', w'' = w.drewN m' :=
  (turn_2 x _ h.1 h.2).mono fun _ _ ⟨he, hw⟩ => ⟨he, m, hw.symm⟩
theorem turnq_6 (x : Int) (w : World) (m : Nat) (h : 0 ≤ x ∧ x ≤ 4294967295) : Calls Try.prog 99 #[.int .u32 x, .int .u64 6] (w.drewN m) fun e w'' => e = .returned (.int .u32 (rot 64 67108864 x)) ∧ ∃ m', w'' = w.drewN m' :=
  (turn_6 x _ h.1 h.2).mono fun _ _ ⟨he, hw⟩ => ⟨he, m, hw.symm⟩
theorem turnw_7 (x : Int) (w : World) (h : 0 ≤ x ∧ x ≤ 4294967295) : Calls Try.prog 99 #[.int .u32 x, .int .u64 7] w fun e w'' => e = .returned (.int .u32 (rot 128 33554432 x)) ∧ w'' = w :=
  (turn_7 x _ h.1 h.2).mono fun _ _ ⟨he, hw⟩ => ⟨he, hw.symm⟩
theorem turnq_11 (x : Int) (w : World) (m : Nat) (h : 0 ≤ x ∧ x ≤ 4294967295) : Calls Try.prog 99 #[.int .u32 x, .int .u64 11] (w.drewN m) fun e w'' => e = .returned (.int .u32 (rot 2048 2097152 x)) ∧ ∃ m', w'' = w.drewN m' :=
  (turn_11 x _ h.1 h.2).mono fun _ _ ⟨he, hw⟩ => ⟨he, m, hw.symm⟩
theorem turnq_13 (x : Int) (w : World) (m : Nat) (h : 0 ≤ x ∧ x ≤ 4294967295) : Calls Try.prog 99 #[.int .u32 x, .int .u64 13] (w.drewN m) fun e w'' => e = .returned (.int .u32 (rot 8192 524288 x)) ∧ ∃ m', w'' = w.drewN m' :=
  (turn_13 x _ h.1 h.2).mono fun _ _ ⟨he, hw⟩ => ⟨he, m, hw.symm⟩
theorem turnw_17 (x : Int) (w : World) (h : 0 ≤ x ∧ x ≤ 4294967295) : Calls Try.prog 99 #[.int .u32 x, .int .u64 17] w fun e w'' => e = .returned (.int .u32 (rot 131072 32768 x)) ∧ w'' = w :=
  (turn_17 x _ h.1 h.2).mono fun _ _ ⟨he, hw⟩ => ⟨he, hw.symm⟩
theorem turnw_18 (x : Int) (w : World) (h : 0 ≤ x ∧ x ≤ 4294967295) : Calls Try.prog 99 #[.int .u32 x, .int .u64 18] w fun e w'' => e = .returned (.int .u32 (rot 262144 16384 x)) ∧ w'' = w :=
  (turn_18 x _ h.1 h.2).mono fun _ _ ⟨he, hw⟩ => ⟨he, hw.symm⟩
theorem turnw_19 (x : Int) (w : World) (h : 0 ≤ x ∧ x ≤ 4294967295) : Calls Try.prog 99 #[.int .u32 x, .int .u64 19] w fun e w'' => e = .returned (.int .u32 (rot 524288 8192 x)) ∧ w'' = w :=
  (turn_19 x _ h.1 h.2).mono fun _ _ ⟨he, hw⟩ => ⟨he, hw.symm⟩
theorem turnq_22 (x : Int) (w : World) (m : Nat) (h : 0 ≤ x ∧ x ≤ 4294967295) : Calls Try.prog 99 #[.int .u32 x, .int .u64 22] (w.drewN m) fun e w'' => e = .returned (.int .u32 (rot 4194304 1024 x)) ∧ ∃ m', w'' = w.drewN m' :=
  (turn_22 x _ h.1 h.2).mono fun _ _ ⟨he, hw⟩ => ⟨he, m, hw.symm⟩
theorem turnq_25 (x : Int) (w : World) (m : Nat) (h : 0 ≤ x ∧ x ≤ 4294967295) : Calls Try.prog 99 #[.int .u32 x, .int .u64 25] (w.drewN m) fun e w'' => e = .returned (.int .u32 (rot 33554432 128 x)) ∧ ∃ m', w'' = w.drewN m' :=
  (turn_25 x _ h.1 h.2).mono fun _ _ ⟨he, hw⟩ => ⟨he, m, hw.symm⟩
end Go.Proofs.Ytfpkgdenohcglaa.Sha
/- The document's keys walked. -/
namespace Go.Proofs.Ytfpkgdenohcglaa.Sha
set_option linter.unusedVariables false
open Go.RowKit Go.Proofs.Ytfpkgdenohcglaa.Base Go.Proofs.Ytfpkgdenohcglaa.ShaPlain Go.Proofs.Ytfpkgdenohcglaa.Aid Go.Proofs.YtfpkgdenohcglaaW.PrintWords Go.Proofs.YtfpkgdenohcglaaW.PrintLast Go.Proofs.YtfpkgdenohcglaaW.PrintMore
theorem info_64 : (Try.prog.info? 119).map (·.size) = some 64 := by kernel_rfl
theorem info_8 : (Try.prog.info? 107).map (·.size) = some 8 := by kernel_rfl
abbrev wordsV (l : List Int) : Value := .agg (nums .u32 l).toArray
set_option maxHeartbeats 4000000 in
set_option maxRecDepth 100000 in
theorem keys_c (w : World) : Calls Try.prog 98 #[] w fun e w' => e = .returned (wordsV keys) ∧ Below w.heap.size w w' := by
  obtain ⟨D, hD⟩ : ∃ D, (nums .u32 keys).toArray = D := ⟨_, rfl⟩
  have hds : D.size = 64 := by rw [← hD]; rfl
  have HI := Aside0.mk (show (Try.prog.info? 119).map (·.size) = some D.size by rw [hds]; exact info_64)
  have HONE := Aside0.mk (show D.all (·.oneCell') = true by rw [← hD]; exact nums_one _ _)
  have HS := Aside0.mk (show (64 : Nat) = D.size from hds.symm)
  have HD := Aside0.mk hD
  clear hD hds
  go_enter Try.func98, Try.ntmps98
  go_wp2_with ((with_reducible refine gate_store (t := 119) (p := 0) (v := .tmp 1) rfl ?_); go_must (refine wpList_store_row rfl 119 (.tmp 0) (.tmp 1) rfl w.heap.size D rfl (by rw [← HD.out]; rfl) 119 _ (by exact blk_new _ _) HI.out (by exact HS.out) HONE.out ?_); rw [World.setRow_alloc_new])
  refine bodyPost_ret (v := .agg D) (results_cell_row rfl _ _ w.heap.size 119 D (0, 0) _ rfl (blk_new w _) Try.underlying119 rfl HI.out) rfl ⟨by rw [← HD.out], below_alloc (Below.refl _ _) _⟩
end Go.Proofs.Ytfpkgdenohcglaa.Sha
/- The document's words of a block walked. -/
namespace Go.Proofs.Ytfpkgdenohcglaa.Sha
set_option linter.unusedVariables false
open Go.RowKit Go.Proofs.Ytfpkgdenohcglaa.Base Go.Proofs.Ytfpkgdenohcglaa.ShaPlain Go.Proofs.Ytfpkgdenohcglaa.Aid Go.Proofs.YtfpkgdenohcglaaW.PrintWords Go.Proofs.YtfpkgdenohcglaaW.PrintLast Go.Proofs.YtfpkgdenohcglaaW.PrintMore
theorem second_new' (w : World) (Z o : Obj) : ((w.alloc Z).alloc o).heap[w.heap.size + 1]? = some o := by
  have h := blk_new (w.alloc Z) o
  simpa using h
theorem add_pos (ad : Addr) (n : Nat) (h : 0 < n) : ad.add n = ⟨ad.block, ad.off + n, none⟩ := by
  have := add_field ad 0 n h
  rw [Nat.zero_add] at this
  rw [this]
  have e : ad.add 0 = ad := by unfold Addr.add; simp
  rw [e]
def zeros64 : Array Value := (nums .u32 (List.replicate 64 0)).toArray
/-- The words under way: the variable (block p), and the answer's cells. -/
def RInv (w : World) (b : List Int) (k : Nat) (wr : World) : Prop := Words wr (w.heap.size + 1) 119 (fill b k) ∧ wr.heap[w.heap.size]? = some (.cells zeros64 119 (0, 0)) ∧ Below w.heap.size w wr
theorem RInv.next {w : World} {b : List Int} {k : Nat} {wr : World} (h : RInv w b k wr) {v : Int} (hv : v = ShaPlain.next b (fill b k) k) : RInv w b (k + 1) (wr.drew.setCell ⟨w.heap.size + 1, k, none⟩ (.int .u32 v)) := by
  subst hv
  refine ⟨Words.set (w := wr.drew) h.1 k _, ?_, below_set (below_drew1 h.2.2) (by omega)⟩
  exact (Below.heap_setCell wr.drew ⟨w.heap.size + 1, k, none⟩ _ w.heap.size (by show w.heap.size ≠ w.heap.size + 1; omega)).trans h.2.1
theorem at_byte {w : World} {A : Option Addr} {b : List Int} (h : Rb w A b) (i : Nat) (hi : i < b.length) : ∃ ad, A = some ad ∧ w.cell? (ad.add i) = some (.int .u8 (b.getD i 0)) := by
  obtain ⟨ad, hA, hc⟩ := Kd.at_int h i (by omega) (by omega)
  exact ⟨ad, hA, by rw [Int.toNat_natCast] at hc; rw [hc]; simp [rd]⟩
set_option maxHeartbeats 8000000 in
set_option maxRecDepth 100000 in
theorem words_c (A : Option Addr) (c : Nat) (b : List Int) (w : World) (hr : Rb w A b) (hc : 64 ≤ c) (hl : b.length = 64) (hu : ∀ j, j < 64 → 0 ≤ b.getD j 0 ∧ b.getD j 0 ≤ 255) :
    Calls Try.prog 97 #[.slice A 64 c] w fun e w' => e = .returned (wordsV (fill b 64)) ∧ Below w.heap.size w w' := by
  obtain ⟨ad, rfl, _⟩ := at_byte hr 0 (by omega)
  have HR := Aside0.mk hr
  have HL := Aside0.mk hl
  have HU := Aside0.mk hu
  clear hr hl hu
  have H0 := Aside0.mk (show RInv w b 0 ((w.alloc (.cells zeros64 119)).alloc (.cells zeros64 119)) from ⟨second_new' _ _ _, blk_alloc (blk_new _ _) _, below_alloc (below_alloc (Below.refl _ _) _) _⟩)
  go_enter Try.func97, Try.ntmps97
  go_wp2
  go_loopw [4, 5, 6] (fun i _ _ wr => ∃ k : Nat, k ≤ 64 ∧ i = .int .i64 k ∧ RInv w b k wr) (fun i _ _ _ => 64 - (intOf i).toNat)
  case atStart => exact ⟨0, by omega, rfl, H0.out⟩
  case round =>
    clear H0
    obtain ⟨k, hk, rfl, hinv⟩ := hrel
    have HI := Aside0.mk hinv
    by_cases hlt : k < 64
    · by_cases h16 : k < 16
      · have hc : ∀ i, i < 64 → wr.cell? (ad.add i) = some (.int .u8 (b.getD i 0)) := fun i hi => by
          obtain ⟨ad', e, h⟩ := at_byte (Kd.C_below HR.out hinv.2.2) i (by rw [HL.out]; exact hi)
          injection e with e
          subst e
          exact h
        have hf : wr.drew.frozen? ⟨w.heap.size + 1, k, none⟩ = false := hinv.1.free k
        have hd : wr.drew.cell? ⟨w.heap.size + 1, k, none⟩ = some (.int .u32 ((fill b k).getD k 0)) := hinv.1.cell k (by rw [fill_len]; omega)
        obtain ⟨x0, hx0⟩ : ∃ x, b.getD (4 * k) 0 = x := ⟨_, rfl⟩
        obtain ⟨x1, hx1⟩ : ∃ x, b.getD (4 * k + 1) 0 = x := ⟨_, rfl⟩
        obtain ⟨x2, hx2⟩ : ∃ x, b.getD (4 * k + 2) 0 = x := ⟨_, rfl⟩
        obtain ⟨x3, hx3⟩ : ∃ x, b.getD (4 * k + 3) 0 = x := ⟨_, rfl⟩
        obtain ⟨old, hold⟩ : ∃ x, (fill b k).getD k 0 = x := ⟨_, rfl⟩
        have c0 := hc (4 * k) (by omega)
        have c1 := hc (4 * k + 1) (by omega)
        have c2 := hc (4 * k + 2) (by omega)
        have c3 := hc (4 * k + 3) (by omega)
        have HV := Aside0.mk (show bits .or .u32 (bits .or .u32 (bits .or .u32 (IntKind.u32.wrap (IntKind.u32.wrap x0 * 16777216)) (IntKind.u32.wrap (IntKind.u32.wrap x1 * 65536))) (IntKind.u32.wrap (IntKind.u32.wrap x2 * 256))) (IntKind.u32.wrap x3) = ShaPlain.next b (fill b k) k by
          rw [word4_eq (hx0 ▸ HU.out _ (by omega)) (hx1 ▸ HU.out _ (by omega)) (hx2 ▸ HU.out _ (by omega)) (hx3 ▸ HU.out _ (by omega)), ShaPlain.next, if_pos h16, hx0, hx1, hx2, hx3])
        rw [hx0] at c0
        rw [hx1] at c1
        rw [hx2] at c2
        rw [hx3] at c3
        rw [hold] at hd
        rw [add_pos _ _ (by omega)] at c1 c2 c3
        clear hc hx0 hx1 hx2 hx3 hold hinv
        have e0 : IntKind.i64.wrap (4 * (k : Int)) = 4 * (k : Int) := IntWalk.i64_in _ (by omega)
        have t0 : (4 * (k : Int)).toNat = 4 * k := by omega
        have g0 : (0 : Int) ≤ 4 * (k : Int) := by omega
        have f0 : 4 * (k : Int) < 64 := by omega
        have e1 : IntKind.i64.wrap (4 * (k : Int) + 1) = 4 * (k : Int) + 1 := IntWalk.i64_in _ (by omega)
        have t1 : (4 * (k : Int) + 1).toNat = 4 * k + 1 := by omega
        have g1 : (0 : Int) ≤ 4 * (k : Int) + 1 := by omega
        have f1 : 4 * (k : Int) + 1 < 64 := by omega
        have e2 : IntKind.i64.wrap (4 * (k : Int) + 2) = 4 * (k : Int) + 2 := IntWalk.i64_in _ (by omega)
        have t2 : (4 * (k : Int) + 2).toNat = 4 * k + 2 := by omega
        have g2 : (0 : Int) ≤ 4 * (k : Int) + 2 := by omega
        have f2 : 4 * (k : Int) + 2 < 64 := by omega
        have e3 : IntKind.i64.wrap (4 * (k : Int) + 3) = 4 * (k : Int) + 3 := IntWalk.i64_in _ (by omega)
        have t3 : (4 * (k : Int) + 3).toNat = 4 * k + 3 := by omega
        have g3 : (0 : Int) ≤ 4 * (k : Int) + 3 := by omega
        have f3 : 4 * (k : Int) + 3 < 64 := by omega
        have g4 : (0 : Int) ≤ (k : Int) := by omega
        have f4 : (k : Int) < 64 := by omega
        have hk16 : (k : Int) < 16 := by omega
        go_wp2
        go_still_tail 35, (by kernel_rfl)
        change wpList _ _ _ _ _ wr.drew
        obtain ⟨w2, hw2⟩ : ∃ w2, wr.drew = w2 := ⟨_, rfl⟩
        have HW := Aside0.mk hw2
        rw [hw2] at hf hd ⊢
        clear hw2 e0 e1 e2 e3 t0 t1 t2 t3 g0 g1 g2 g3 f0 f1 f2 f3
        go_wp2
        go_roundw
        case rel => exact ⟨k + 1, by omega, by go_num, by rw [← HW.out]; exact HI.out.next HV.out⟩
        case measure => simp [intOf]; omega
      · have hU := fun j => (fill_u32 b k).at j
        have hcw : ∀ j, j < 64 → wr.cell? ⟨w.heap.size + 1, j, none⟩ = some (.int .u32 ((fill b k).getD j 0)) := fun j hj => hinv.1.cell j (by rw [fill_len]; omega)
        have hk16 : 16 ≤ k := by omega
        have hd := hcw k (by omega)
        have c15 := hcw (k - 15) (by omega)
        have c2 := hcw (k - 2) (by omega)
        have c16 := hcw (k - 16) (by omega)
        have c7 := hcw (k - 7) (by omega)
        obtain ⟨x15, hx15⟩ : ∃ x, (fill b k).getD (k - 15) 0 = x := ⟨_, rfl⟩
        obtain ⟨x2, hx2⟩ : ∃ x, (fill b k).getD (k - 2) 0 = x := ⟨_, rfl⟩
        obtain ⟨x16, hx16⟩ : ∃ x, (fill b k).getD (k - 16) 0 = x := ⟨_, rfl⟩
        obtain ⟨x7, hx7⟩ : ∃ x, (fill b k).getD (k - 7) 0 = x := ⟨_, rfl⟩
        obtain ⟨old, hold⟩ : ∃ x, (fill b k).getD k 0 = x := ⟨_, rfl⟩
        have r15 := hU (k - 15)
        have r2 := hU (k - 2)
        rw [hx15] at c15 r15
        rw [hx2] at c2 r2
        rw [hx16] at c16
        rw [hx7] at c7
        rw [hold] at hd
        have HR15 := Aside0.mk r15
        have HR2 := Aside0.mk r2
        have HV := Aside0.mk (show ∀ X, X = (high x2 + x7 + low x15 + x16) % 4294967296 → X = ShaPlain.next b (fill b k) k by
          intro X hX
          rw [ShaPlain.next, if_neg (by omega), hx15, hx2, hx16, hx7, m32, hX]
          congr 1
          omega)
        clear hcw hU hx15 hx2 hx16 hx7 hold hinv r15 r2 h16
        have e2 : IntKind.i64.wrap ((k : Int) - 2) = (k : Int) - 2 := IntWalk.i64_in _ (by omega)
        have t2 : ((k : Int) - 2).toNat = k - 2 := by omega
        have g2 : (0 : Int) ≤ (k : Int) - 2 := by omega
        have f2 : (k : Int) - 2 < 64 := by omega
        have e7 : IntKind.i64.wrap ((k : Int) - 7) = (k : Int) - 7 := IntWalk.i64_in _ (by omega)
        have t7 : ((k : Int) - 7).toNat = k - 7 := by omega
        have g7 : (0 : Int) ≤ (k : Int) - 7 := by omega
        have f7 : (k : Int) - 7 < 64 := by omega
        have e15 : IntKind.i64.wrap ((k : Int) - 15) = (k : Int) - 15 := IntWalk.i64_in _ (by omega)
        have t15 : ((k : Int) - 15).toNat = k - 15 := by omega
        have g15 : (0 : Int) ≤ (k : Int) - 15 := by omega
        have f15 : (k : Int) - 15 < 64 := by omega
        have e16 : IntKind.i64.wrap ((k : Int) - 16) = (k : Int) - 16 := IntWalk.i64_in _ (by omega)
        have t16 : ((k : Int) - 16).toNat = k - 16 := by omega
        have g16 : (0 : Int) ≤ (k : Int) - 16 := by omega
        have f16 : (k : Int) - 16 < 64 := by omega
        have g4 : (0 : Int) ≤ (k : Int) := by omega
        have f4 : (k : Int) < 64 := by omega
        have hdk16 : decide ((k : Int) < 16) = false := decide_eq_false (by omega)
        go_wp2
        clear hdk16
        go_quiet (fail)
        have HI2 := Aside0.mk (show RInv w b k (wr.drewN nq) from ⟨HI.out.1, HI.out.2.1, pw_below_drewN HI.out.2.2 nq⟩)
        have hf' : (wr.drewN nq).drew.frozen? ⟨w.heap.size + 1, k, none⟩ = false := HI.out.1.free k
        have hd' : (wr.drewN nq).drew.cell? ⟨w.heap.size + 1, k, none⟩ = some (.int .u32 old) := hd
        have c16' : (wr.drewN nq).cell? ⟨w.heap.size + 1, k - 16, none⟩ = some (.int .u32 x16) := c16
        have c7' : (wr.drewN nq).cell? ⟨w.heap.size + 1, k - 7, none⟩ = some (.int .u32 x7) := c7
        clear c15 c2 c16 c7 hd HI
        revert HI2 hf' hd' c16' c7'
        generalize wr.drewN nq = wq
        intro HI2 hf hd c16 c7
        have h16 : (16 : Int) ≤ (k : Int) := by omega
        have l16 : (k : Int) < 64 + 16 := by omega
        have h7 : (7 : Int) ≤ (k : Int) := by omega
        have l7 : (k : Int) < 64 + 7 := by omega
        go_wp2_with (fail)
        go_still_tail 29, (by kernel_rfl)
        still_call (turnw_17 x2 _ HR2.out)
        repeat still_step
        still_call (turnw_19 x2 _ HR2.out)
        repeat still_step
        still_call (turnw_7 x15 _ HR15.out)
        repeat still_step
        still_call (turnw_18 x15 _ HR15.out)
        repeat still_step
        try refine wpStill_nil ?_
        change wpList _ _ _ _ _ wq.drew
        obtain ⟨w2, hw2⟩ : ∃ w2, wq.drew = w2 := ⟨_, rfl⟩
        have HW := Aside0.mk hw2
        rw [hw2] at hf hd ⊢
        clear hw2 e2 e7 e15 e16 t2 t7 t15 t16 g2 g7 g15 g16 f2 f7 f15 f16
        go_wp2
        go_roundw
        case rel => exact ⟨k + 1, by omega, by go_num, by rw [← HW.out]; exact HI2.out.next (HV.out _ rfl)⟩
        case measure => simp [intOf]; omega
    · have HK := Aside0.mk (show k = 64 by omega)
      have hge : 64 ≤ k := by omega
      obtain ⟨D, hD⟩ : ∃ D, (nums .u32 (fill b k)).toArray = D := ⟨_, rfl⟩
      have h3 := hinv.1
      unfold Words at h3
      rw [hD] at h3
      have H3 := Aside0.mk h3
      have H2 := Aside0.mk hinv.2.1
      have HB := Aside0.mk hinv.2.2
      have hds : D.size = 64 := by rw [← hD]; simp [nums, fill_len]
      have HZS := Aside0.mk (show zeros64.size = D.size by rw [hds]; simp [zeros64, nums])
      have HIF := Aside0.mk (show (Try.prog.info? 119).map (·.size) = some D.size by rw [hds]; exact info_64)
      have HONE := Aside0.mk (show D.all (·.oneCell') = true by rw [← hD]; exact nums_one _ _)
      have HFIN := Aside0.mk (show D = (nums .u32 (fill b 64)).toArray by rw [← hD, HK.out])
      clear hD hds h3 hinv hlt hk HI
      go_wp2_with (first
        | ((with_reducible refine gate_dst (N := 85) rfl ?_); refine wpList_load_row rfl 119 (.tmp 3) rfl (w.heap.size + 1) rfl 119 D (0, 0) _ H3.out Try.underlying119 rfl HIF.out ?_)
        | ((with_reducible refine gate_store (t := 119) (p := 2) (v := .tmp 85) rfl ?_); refine wpList_store_row rfl 119 (.tmp 2) (.tmp 85) rfl w.heap.size D rfl rfl 119 zeros64 H2.out HIF.out HZS.out HONE.out ?_))
      have HSR := setRow_heap wr w.heap.size zeros64 D _ _ H2.out
      refine bodyPost_ret (v := .agg D) (results_cell_row rfl _ _ w.heap.size 119 D (0, 0) _ rfl HSR Try.underlying119 rfl HIF.out) rfl ⟨by rw [HFIN.out], below_setRow HB.out (Nat.le_refl _) D⟩
end Go.Proofs.Ytfpkgdenohcglaa.Sha
/- The document's block walked. -/
namespace Go.Proofs.Ytfpkgdenohcglaa.Sha
set_option linter.unusedVariables false
open Go.RowKit Go.Proofs.Ytfpkgdenohcglaa.Base Go.Proofs.Ytfpkgdenohcglaa.ShaPlain Go.Proofs.Ytfpkgdenohcglaa.Aid Go.Proofs.YtfpkgdenohcglaaW.PrintWords Go.Proofs.YtfpkgdenohcglaaW.PrintLast Go.Proofs.YtfpkgdenohcglaaW.PrintMore
theorem row_other {w : World} {q g : Nat} {o : Obj} {cs : Array Value} (hb : w.heap[q]? = some o) (hne : q ≠ g) : (w.setRow g cs).heap[q]? = some o := (setRow_other w g q cs hne).trans hb
/-- The cells of block's variables: the state, the answer, the words, the keys (q, q + 1) and the eight words under way (p). -/
def KInv (w : World) (q p : Nat) (s ws v : List Int) (wr : World) : Prop :=
  Words wr w.heap.size 107 s ∧ Words wr (w.heap.size + 1) 107 (List.replicate 8 0) ∧ Words wr q 119 ws ∧ Words wr (q + 1) 119 keys ∧ Words wr p 107 v ∧ w.heap.size + 2 ≤ q ∧ q + 2 ≤ p ∧ Below w.heap.size w wr
theorem KInv.drewN {w wr : World} {q p : Nat} {s ws v : List Int} (h : KInv w q p s ws v wr) (m : Nat) : KInv w q p s ws v (wr.drewN m) := ⟨h.1, h.2.1, h.2.2.1, h.2.2.2.1, h.2.2.2.2.1, h.2.2.2.2.2.1, h.2.2.2.2.2.2.1, pw_below_drewN h.2.2.2.2.2.2.2 m⟩
theorem KInv.row {w wr : World} {q p : Nat} {s ws v v' : List Int} (h : KInv w q p s ws v wr) : KInv w q p s ws v' (wr.setRow p (nums .u32 v').toArray) := by
  obtain ⟨h1, h2, h3, h4, h5, h6, h7, h8⟩ := h
  exact ⟨row_other h1 (by omega), row_other h2 (by omega), row_other h3 (by omega), row_other h4 (by omega), setRow_heap _ _ _ _ _ _ h5, h6, h7, below_setRow h8 (by omega) _⟩
theorem KInv.set_s {w wr : World} {q p : Nat} {s ws v : List Int} (h : KInv w q p s ws v wr) (i : Nat) (x : Int) : KInv w q p (s.set i x) ws v (wr.setCell ⟨w.heap.size, i, none⟩ (.int .u32 x)) := by
  obtain ⟨h1, h2, h3, h4, h5, h6, h7, h8⟩ := h
  have hk : ∀ k o, wr.heap[k]? = some o → k ≠ w.heap.size → (wr.setCell ⟨w.heap.size, i, none⟩ (.int .u32 x)).heap[k]? = some o := fun k o ho hne => (Below.heap_setCell wr ⟨w.heap.size, i, none⟩ _ k hne).trans ho
  exact ⟨h1.set i x, hk _ _ h2 (by omega), hk _ _ h3 (by omega), hk _ _ h4 (by omega), hk _ _ h5 (by omega), h6, h7, below_set h8 (Nat.le_refl _)⟩
theorem KInv.next {w wr : World} {q p k : Nat} {s ws : List Int} {v0 v1 v2 v3 v4 v5 v6 v7 X Y : Int} (h : KInv w q p s ws [v0, v1, v2, v3, v4, v5, v6, v7] wr) (hr : rounds s ws (k + 1) = [X, v0, v1, v2, Y, v4, v5, v6]) :
    KInv w q p s ws (rounds s ws (k + 1)) (wr.setRow p #[.int .u32 X, .int .u32 v0, .int .u32 v1, .int .u32 v2, .int .u32 Y, .int .u32 v4, .int .u32 v5, .int .u32 v6]) := by
  rw [hr]
  exact h.row
def addN (s v : List Int) : Nat → List Int
  | 0 => s
  | j + 1 => (addN s v j).set j ((s.getD j 0 + v.getD j 0) % 4294967296)
theorem addN_len (s v : List Int) : ∀ j, (addN s v j).length = s.length
  | 0 => rfl
  | j + 1 => by rw [addN, List.length_set, addN_len s v j]
theorem addN_get (s v : List Int) : ∀ j i, j ≤ i → (addN s v j).getD i 0 = s.getD i 0
  | 0, _, _ => rfl
  | j + 1, i, h => by
    rw [addN, List.getD_eq_getElem?_getD, List.getElem?_set_ne (by omega), ← List.getD_eq_getElem?_getD]
    exact addN_get s v j i (by omega)
theorem addN_all {s v : List Int} (hs : s.length = 8) (hv : v.length = 8) : addN s v 8 = List.zipWith (fun x y => m32 (x + y)) s v := by
  obtain ⟨s0, s1, s2, s3, s4, s5, s6, s7, rfl⟩ := len8 hs
  obtain ⟨v0, v1, v2, v3, v4, v5, v6, v7, rfl⟩ := len8 hv
  rfl
set_option maxHeartbeats 8000000 in
set_option maxRecDepth 100000 in
theorem block_c (A : Option Addr) (c : Nat) (b s : List Int) (w : World) (hr : Rb w A b) (hc : 64 ≤ c) (hl : b.length = 64) (hu : ∀ j, j < 64 → 0 ≤ b.getD j 0 ∧ b.getD j 0 ≤ 255) (hs : s.length = 8) (hsu : U32 s) :
    Calls Try.prog 79 #[wordsV s, .slice A 64 c] w fun e w' => e = .returned (wordsV (press s b)) ∧ Below w.heap.size w w' := by
  have HR := Aside0.mk hr
  have HC := Aside0.mk hc
  have HL := Aside0.mk hl
  have HU := Aside0.mk hu
  have HS8 := Aside0.mk hs
  have HSU := Aside0.mk hsu
  obtain ⟨s0, s1, s2, s3, s4, s5, s6, s7, hse⟩ := len8 hs
  have HSE := Aside0.mk hse
  have HW0 := Aside0.mk (show Words ((w.alloc (.cells #[.int .u32 s0, .int .u32 s1, .int .u32 s2, .int .u32 s3, .int .u32 s4, .int .u32 s5, .int .u32 s6, .int .u32 s7] 107)).alloc (.cells #[.int .u32 0, .int .u32 0, .int .u32 0, .int .u32 0, .int .u32 0, .int .u32 0, .int .u32 0, .int .u32 0] 107)) w.heap.size 107 s by rw [hse]; exact blk_alloc (blk_new _ _) _)
  have HW1 := Aside0.mk (show Words ((w.alloc (.cells #[.int .u32 s0, .int .u32 s1, .int .u32 s2, .int .u32 s3, .int .u32 s4, .int .u32 s5, .int .u32 s6, .int .u32 s7] 107)).alloc (.cells #[.int .u32 0, .int .u32 0, .int .u32 0, .int .u32 0, .int .u32 0, .int .u32 0, .int .u32 0, .int .u32 0] 107)) (w.heap.size + 1) 107 (List.replicate 8 0) from second_new' _ _ _)
  rw [show wordsV s = .agg #[.int .u32 s0, .int .u32 s1, .int .u32 s2, .int .u32 s3, .int .u32 s4, .int .u32 s5, .int .u32 s6, .int .u32 s7] by rw [hse]; rfl]
  clear hr hc hl hu hs hsu hse
  go_enter Try.func79, Try.ntmps79
  go_wp2_with (fail)
  obtain ⟨wa, hwa⟩ : ∃ wa, (w.alloc (.cells #[.int .u32 s0, .int .u32 s1, .int .u32 s2, .int .u32 s3, .int .u32 s4, .int .u32 s5, .int .u32 s6, .int .u32 s7] 107)).alloc (.cells #[.int .u32 0, .int .u32 0, .int .u32 0, .int .u32 0, .int .u32 0, .int .u32 0, .int .u32 0, .int .u32 0] 107) = wa := ⟨_, rfl⟩
  have HBA := Aside0.mk (show Below w.heap.size w wa by rw [← hwa]; exact below_alloc (below_alloc (Below.refl _ _) _) _)
  have HSZ := Aside0.mk (show wa.heap.size = w.heap.size + 2 by rw [← hwa]; simp)
  rw [hwa] at HW0 HW1 ⊢
  clear hwa
  refine (words_c A c b wa (Kd.C_below HR.out HBA.out) HC.out HL.out HU.out).mono ?_
  rintro e w1 ⟨rfl, hb1⟩
  go_wp2_with (fail)
  refine (keys_c w1).mono ?_
  rintro e w2 ⟨rfl, hb2⟩
  have hb := below_step hb1 hb2
  have X0 := Aside0.mk (show Words w2 w.heap.size 107 s from blk_below HW0.out hb)
  have X1 := Aside0.mk (show Words w2 (w.heap.size + 1) 107 (List.replicate 8 0) from blk_below HW1.out hb)
  have XB := Aside0.mk (below_step HBA.out hb)
  have XS := Aside0.mk (show w.heap.size + 2 ≤ w2.heap.size by have := hb.size; have := HSZ.out; omega)
  clear hb1 hb2 hb HW0 HW1 HBA HSZ
  obtain ⟨D5, hD5⟩ : ∃ D, (nums .u32 (fill b 64)).toArray = D := ⟨_, rfl⟩
  obtain ⟨D6, hD6⟩ : ∃ D, (nums .u32 keys).toArray = D := ⟨_, rfl⟩
  have HD5 := Aside0.mk hD5
  have HD6 := Aside0.mk hD6
  have h5s : D5.size = 64 := by rw [← hD5]; simp [nums, fill_len]
  have h6s : D6.size = 64 := by rw [← hD6]; rfl
  have I5 := Aside0.mk (show (Try.prog.info? 119).map (·.size) = some D5.size by rw [h5s]; exact info_64)
  have I6 := Aside0.mk (show (Try.prog.info? 119).map (·.size) = some D6.size by rw [h6s]; exact info_64)
  have S5 := Aside0.mk (show (64 : Nat) = D5.size from h5s.symm)
  have S6 := Aside0.mk (show (64 : Nat) = D6.size from h6s.symm)
  have O5 := Aside0.mk (show D5.all (·.oneCell') = true by rw [← hD5]; exact nums_one _ _)
  have O6 := Aside0.mk (show D6.all (·.oneCell') = true by rw [← hD6]; exact nums_one _ _)
  rw [show wordsV (fill b 64) = .agg D5 from by rw [← hD5], show wordsV keys = .agg D6 from by rw [← hD6]]
  clear hD5 hD6 h5s h6s
  go_wp2_with (first
    | ((with_reducible refine gate_store (t := 119) (p := 5) (v := .tmp 15) rfl ?_); go_must (refine wpList_store_row rfl 119 (.tmp 5) (.tmp 15) rfl w2.heap.size D5 rfl rfl 119 _ (by exact blk_alloc (blk_new _ _) _) I5.out (by exact S5.out) O5.out ?_); go_must (generalize hW5 : World.setRow _ _ _ = W5); have Y5 := Aside0.mk (show W5.heap[w2.heap.size]? = some (.cells D5 119 (0, 0)) by rw [← hW5]; exact setRow_heap _ _ _ _ _ _ (blk_alloc (blk_new _ _) _)); have Y6 := Aside0.mk (show ∃ Z, Z.size = 64 ∧ W5.heap[w2.heap.size + 1]? = some (.cells Z 119 (0, 0)) by rw [← hW5]; exact ⟨_, by exact rfl, row_other (second_new' _ _ _) (by omega)⟩); have Y0 := Aside0.mk (show Words W5 w.heap.size 107 s by rw [← hW5]; exact row_other (blk_alloc (blk_alloc X0.out _) _) (by have := XS.out; omega)); have Y1 := Aside0.mk (show Words W5 (w.heap.size + 1) 107 (List.replicate 8 0) by rw [← hW5]; exact row_other (blk_alloc (blk_alloc X1.out _) _) (by have := XS.out; omega)); have YB := Aside0.mk (show Below w.heap.size w W5 by rw [← hW5]; exact below_setRow (below_alloc (below_alloc XB.out _) _) (by have := XS.out; omega) _); have YS := Aside0.mk (show W5.heap.size = w2.heap.size + 2 by rw [← hW5]; simp); clear hW5)
    | ((with_reducible refine gate_store (t := 119) (p := 6) (v := .tmp 16) rfl ?_); go_must (obtain ⟨Z, hZ, hY6⟩ := Y6.out); go_must (refine wpList_store_row rfl 119 (.tmp 6) (.tmp 16) rfl (w2.heap.size + 1) D6 rfl rfl 119 Z hY6 I6.out (by rw [hZ]; exact S6.out) O6.out ?_); go_must (generalize hW6 : World.setRow _ _ _ = W6); have V5 := Aside0.mk (show W6.heap[w2.heap.size]? = some (.cells D5 119 (0, 0)) by rw [← hW6]; exact row_other Y5.out (by omega)); have V6 := Aside0.mk (show W6.heap[w2.heap.size + 1]? = some (.cells D6 119 (0, 0)) by rw [← hW6]; exact setRow_heap _ _ _ _ _ _ hY6); have V0 := Aside0.mk (show Words W6 w.heap.size 107 s by rw [← hW6]; exact row_other Y0.out (by have := XS.out; omega)); have V1 := Aside0.mk (show Words W6 (w.heap.size + 1) 107 (List.replicate 8 0) by rw [← hW6]; exact row_other Y1.out (by have := XS.out; omega)); have VB := Aside0.mk (show Below w.heap.size w W6 by rw [← hW6]; exact below_setRow YB.out (by have := XS.out; omega) _); have VS := Aside0.mk (show W6.heap.size = w2.heap.size + 2 by rw [← hW6, size_setRow]; exact YS.out); clear hW6 hY6 hZ; have hv0 := V0.out; rw [HSE.out] at hv0; have z0 : W6.cell? ⟨w.heap.size, 0, none⟩ = some (.int .u32 s0) := hv0.cell 0 (by simp); have z1 : W6.cell? ⟨w.heap.size, 1, none⟩ = some (.int .u32 s1) := hv0.cell 1 (by simp); have z2 : W6.cell? ⟨w.heap.size, 2, none⟩ = some (.int .u32 s2) := hv0.cell 2 (by simp); have z3 : W6.cell? ⟨w.heap.size, 3, none⟩ = some (.int .u32 s3) := hv0.cell 3 (by simp); have z4 : W6.cell? ⟨w.heap.size, 4, none⟩ = some (.int .u32 s4) := hv0.cell 4 (by simp); have z5 : W6.cell? ⟨w.heap.size, 5, none⟩ = some (.int .u32 s5) := hv0.cell 5 (by simp); have z6 : W6.cell? ⟨w.heap.size, 6, none⟩ = some (.int .u32 s6) := hv0.cell 6 (by simp); have z7 : W6.cell? ⟨w.heap.size, 7, none⟩ = some (.int .u32 s7) := hv0.cell 7 (by simp); clear hv0))
  obtain ⟨q, hq⟩ : ∃ q, w2.heap.size = q := ⟨_, rfl⟩
  obtain ⟨p, hp⟩ : ∃ p, W6.heap.size = p := ⟨_, rfl⟩
  have H0 := Aside0.mk (show KInv w q p s (fill b 64) (rounds s (fill b 64) 0) (W6.alloc (.cells #[.int .u32 s0, .int .u32 s1, .int .u32 s2, .int .u32 s3, .int .u32 s4, .int .u32 s5, .int .u32 s6, .int .u32 s7] 107)) by
    have h5 := V5.out
    have h6 := V6.out
    rw [← HD5.out, hq] at h5
    rw [← HD6.out, hq] at h6
    refine ⟨blk_alloc V0.out _, blk_alloc V1.out _, blk_alloc h5 _, blk_alloc h6 _, ?_, by have := XS.out; omega, by have := VS.out; omega, below_alloc VB.out _⟩
    rw [show rounds s (fill b 64) 0 = s from rfl, HSE.out, ← hp]
    exact blk_new _ _)
  rw [hq, hp]
  clear z0 z1 z2 z3 z4 z5 z6 z7 V0 V1 V5 V6 VB VS Y0 Y1 Y5 Y6 YB YS X0 X1 XB XS I5 I6 S5 S6 O5 O6 hq hp
  obtain ⟨ws, hwse⟩ : ∃ ws, fill b 64 = ws := ⟨_, rfl⟩
  have HWE := Aside0.mk hwse
  rw [hwse] at H0
  clear hwse
  go_loopw [8, 9, 10, 11, 12] (fun i _ _ _ _ wr => ∃ k : Nat, k ≤ 64 ∧ i = .int .i64 k ∧ KInv w q p s ws (rounds s ws k) wr) (fun i _ _ _ _ _ => 64 - (intOf i).toNat)
  case atStart => exact ⟨0, by omega, rfl, H0.out⟩
  case round =>
    clear H0
    obtain ⟨k, hk, rfl, hinv⟩ := hrel
    have hU := (rounds_u32 HSU.out ws k).at
    obtain ⟨v0, v1, v2, v3, v4, v5, v6, v7, hv⟩ := len8 (rounds_len HS8.out ws k)
    have HV := Aside0.mk hv
    rw [hv] at hU
    have hinv' := hinv
    rw [hv] at hinv'
    have HI2 := Aside0.mk hinv'
    have hw := hinv'.2.2.2.2.1.cell
    have c0 : wr.cell? ⟨p, 0, none⟩ = some (.int .u32 v0) := hw 0 (by simp)
    have c1 : wr.cell? ⟨p, 1, none⟩ = some (.int .u32 v1) := hw 1 (by simp)
    have c2 : wr.cell? ⟨p, 2, none⟩ = some (.int .u32 v2) := hw 2 (by simp)
    have c3 : wr.cell? ⟨p, 3, none⟩ = some (.int .u32 v3) := hw 3 (by simp)
    have c4 : wr.cell? ⟨p, 4, none⟩ = some (.int .u32 v4) := hw 4 (by simp)
    have c5 : wr.cell? ⟨p, 5, none⟩ = some (.int .u32 v5) := hw 5 (by simp)
    have c6 : wr.cell? ⟨p, 6, none⟩ = some (.int .u32 v6) := hw 6 (by simp)
    have c7 : wr.cell? ⟨p, 7, none⟩ = some (.int .u32 v7) := hw 7 (by simp)
    have HR0 := Aside0.mk (show 0 ≤ v0 ∧ v0 ≤ 4294967295 from hU 0)
    have HR4 := Aside0.mk (show 0 ≤ v4 ∧ v4 ≤ 4294967295 from hU 4)
    by_cases hlt : k < 64
    · obtain ⟨kk, hkk⟩ : ∃ x, keys.getD k 0 = x := ⟨_, rfl⟩
      obtain ⟨xx, hxx⟩ : ∃ x, ws.getD k 0 = x := ⟨_, rfl⟩
      have ck : wr.cell? ⟨q + 1, k, none⟩ = some (.int .u32 kk) := by
        rw [← hkk]
        exact hinv.2.2.2.1.cell k (by show k < 64; omega)
      have cx : wr.cell? ⟨q, k, none⟩ = some (.int .u32 xx) := by
        rw [← hxx]
        exact hinv.2.2.1.cell k (by rw [← HWE.out, fill_len]; omega)
      have HKX := Aside0.mk (And.intro hkk hxx)
      have g4 : (0 : Int) ≤ (k : Int) := by omega
      have f4 : (k : Int) < 64 := by omega
      clear hv hU hinv hinv' hw hkk hxx
      go_wp2
      go_quiet (fail)
      have d0 : (wr.drewN nq).cell? ⟨p, 0, none⟩ = some (.int .u32 v0) := c0
      have d1 : (wr.drewN nq).cell? ⟨p, 1, none⟩ = some (.int .u32 v1) := c1
      have d2 : (wr.drewN nq).cell? ⟨p, 2, none⟩ = some (.int .u32 v2) := c2
      have d3 : (wr.drewN nq).cell? ⟨p, 3, none⟩ = some (.int .u32 v3) := c3
      have d4 : (wr.drewN nq).cell? ⟨p, 4, none⟩ = some (.int .u32 v4) := c4
      have d5 : (wr.drewN nq).cell? ⟨p, 5, none⟩ = some (.int .u32 v5) := c5
      have d6 : (wr.drewN nq).cell? ⟨p, 6, none⟩ = some (.int .u32 v6) := c6
      have d7 : (wr.drewN nq).cell? ⟨p, 7, none⟩ = some (.int .u32 v7) := c7
      have dk : (wr.drewN nq).cell? ⟨q + 1, k, none⟩ = some (.int .u32 kk) := ck
      have dx : (wr.drewN nq).cell? ⟨q, k, none⟩ = some (.int .u32 xx) := cx
      have HI3 := Aside0.mk (HI2.out.drewN nq)
      clear c0 c1 c2 c3 c4 c5 c6 c7 ck cx HI2
      revert d0 d1 d2 d3 d4 d5 d6 d7 dk dx HI3
      generalize wr.drewN nq = wq
      intro d0 d1 d2 d3 d4 d5 d6 d7 dk dx HI3
      have rq6 := fun m => turnq_6 v4 wq m HR4.out
      have rq11 := fun m => turnq_11 v4 wq m HR4.out
      have rq25 := fun m => turnq_25 v4 wq m HR4.out
      go_wp2_with (fail)
      go_quiet ((first | (with_reducible exact rq6 _) | (with_reducible exact rq11 _) | (with_reducible exact rq25 _)))
      have c0 : (wq.drewN nq).cell? ⟨p, 0, none⟩ = some (.int .u32 v0) := d0
      have c1 : (wq.drewN nq).cell? ⟨p, 1, none⟩ = some (.int .u32 v1) := d1
      have c2 : (wq.drewN nq).cell? ⟨p, 2, none⟩ = some (.int .u32 v2) := d2
      have c3 : (wq.drewN nq).cell? ⟨p, 3, none⟩ = some (.int .u32 v3) := d3
      have c4 : (wq.drewN nq).cell? ⟨p, 4, none⟩ = some (.int .u32 v4) := d4
      have c5 : (wq.drewN nq).cell? ⟨p, 5, none⟩ = some (.int .u32 v5) := d5
      have c6 : (wq.drewN nq).cell? ⟨p, 6, none⟩ = some (.int .u32 v6) := d6
      have HI4 := Aside0.mk (HI3.out.drewN nq)
      clear d0 d1 d2 d3 d4 d5 d6 d7 dk dx HI3 rq6 rq11 rq25
      revert c0 c1 c2 c3 c4 c5 c6 HI4
      generalize wq.drewN nq = w3
      intro c0 c1 c2 c3 c4 c5 c6 HI4
      have rq2 := fun m => turnq_2 v0 w3 m HR0.out
      have rq13 := fun m => turnq_13 v0 w3 m HR0.out
      have rq22 := fun m => turnq_22 v0 w3 m HR0.out
      go_wp2_with (fail)
      go_quiet ((first | (with_reducible exact rq2 _) | (with_reducible exact rq13 _) | (with_reducible exact rq22 _)))
      have d0 : (w3.drewN nq).cell? ⟨p, 0, none⟩ = some (.int .u32 v0) := c0
      have d1 : (w3.drewN nq).cell? ⟨p, 1, none⟩ = some (.int .u32 v1) := c1
      have d2 : (w3.drewN nq).cell? ⟨p, 2, none⟩ = some (.int .u32 v2) := c2
      have d3 : (w3.drewN nq).cell? ⟨p, 3, none⟩ = some (.int .u32 v3) := c3
      have d4 : (w3.drewN nq).cell? ⟨p, 4, none⟩ = some (.int .u32 v4) := c4
      have d5 : (w3.drewN nq).cell? ⟨p, 5, none⟩ = some (.int .u32 v5) := c5
      have d6 : (w3.drewN nq).cell? ⟨p, 6, none⟩ = some (.int .u32 v6) := c6
      have HI5 := Aside0.mk (HI4.out.drewN nq)
      clear c0 c1 c2 c3 c4 c5 c6 HI4 rq2 rq13 rq22
      revert d0 d1 d2 d3 d4 d5 d6 HI5
      generalize w3.drewN nq = w4
      intro d0 d1 d2 d3 d4 d5 d6 HI5
      go_wp2_with ((with_reducible refine gate_store (t := 107) (p := 7) (v := .tmp 99) rfl ?_); go_must (refine wpList_store_row rfl 107 (.tmp 7) (.tmp 99) rfl p _ rfl rfl 107 _ HI5.out.2.2.2.2.1 (by exact info_8) (by rfl) (by exact nums_one .u32 [_, v0, v1, v2, _, v4, v5, v6]) ?_))
      go_roundw
      case rel =>
        refine ⟨k + 1, by omega, by go_num, HI5.out.next ?_⟩
        rw [show rounds s ws (k + 1) = ShaPlain.step (rounds s ws k) (keys.getD k 0) (ws.getD k 0) from rfl, HV.out, HKX.out.1, HKX.out.2]
        show [m32 (one _ kk xx + two _), v0, v1, v2, m32 (v3 + one _ kk xx), v4, v5, v6] = _
        simp only [List.cons.injEq, true_and, and_true]
        constructor
        · show m32 (m32 (v7 + sigE v4 + choice v4 v5 v6 + kk + xx) + m32 (sigA v0 + most v0 v1 v2)) = _
          unfold m32 sigE sigA choice most xo an
          omega
        · show m32 (v3 + m32 (v7 + sigE v4 + choice v4 v5 v6 + kk + xx)) = _
          unfold m32 sigE choice xo an
          omega
      case measure => simp [intOf]; omega
    · have HKE := Aside0.mk (show k = 64 by omega)
      have hge : 64 ≤ k := by omega
      have hdk : decide ((k : Int) < 64) = false := decide_eq_false (by omega)
      obtain ⟨v, hve⟩ : ∃ v, rounds s ws k = v := ⟨_, rfl⟩
      have HVE := Aside0.mk hve
      have HVL := Aside0.mk (show v.length = 8 by rw [← hve]; exact rounds_len HS8.out ws k)
      have HA := Aside0.mk (show KInv w q p (addN s v 0) ws v wr by rw [← hve]; exact hinv)
      clear hv hU hinv hinv' hw hlt hk hve c0 c1 c2 c3 c4 c5 c6 c7 HI2 HR0 HR4
      go_wp2
      clear hge hdk
      go_loopw [13] (fun i wx => ∃ j : Nat, j ≤ 8 ∧ i = .int .i64 j ∧ KInv w q p (addN s v j) ws v wx) (fun i _ => 8 - (intOf i).toNat)
      case atStart => exact ⟨0, by omega, rfl, HA.out⟩
      case round =>
        clear HA
        obtain ⟨j, hj, rfl, hinv⟩ := hrel
        have HA := Aside0.mk hinv
        by_cases hlt : j < 8
        · obtain ⟨x, hx⟩ : ∃ x, s.getD j 0 = x := ⟨_, rfl⟩
          obtain ⟨y, hy⟩ : ∃ y, v.getD j 0 = y := ⟨_, rfl⟩
          have HXY := Aside0.mk (And.intro hx hy)
          have cs := hinv.1.cell j (by rw [addN_len, HS8.out]; exact hlt)
          rw [addN_get s v j j (Nat.le_refl _), hx] at cs
          have cv := hinv.2.2.2.2.1.cell j (by rw [HVL.out]; exact hlt)
          rw [hy] at cv
          have hf : wr.drew.frozen? ⟨w.heap.size, j, none⟩ = false := hinv.1.free j
          have hd : wr.drew.cell? ⟨w.heap.size, j, none⟩ = some (.int .u32 x) := cs
          have j0 : (0 : Int) ≤ (j : Int) := by omega
          have j1 : (j : Int) < 8 := by omega
          clear hx hy hinv
          go_wp2
          go_still_tail 9, (by kernel_rfl)
          change wpList _ _ _ _ _ wr.drew
          have HA2 := Aside0.mk (show KInv w q p (addN s v j) ws v wr.drew from HA.out.drewN 1)
          clear HA cs cv
          obtain ⟨w2', hw2⟩ : ∃ w2', wr.drew = w2' := ⟨_, rfl⟩
          rw [hw2] at hf hd HA2 ⊢
          clear hw2
          go_wp2
          go_roundw
          case rel =>
            refine ⟨j + 1, by omega, by go_num, ?_⟩
            rw [addN, HXY.out.1, HXY.out.2]
            exact HA2.out.set_s j _
          case measure => simp [intOf]; omega
        · have HJ := Aside0.mk (show j = 8 by omega)
          have hge : 8 ≤ j := by omega
          obtain ⟨D, hD⟩ : ∃ D, (nums .u32 (addN s v j)).toArray = D := ⟨_, rfl⟩
          have h2 := hinv.1
          unfold Words at h2
          rw [hD] at h2
          have H2 := Aside0.mk h2
          have H4 := Aside0.mk hinv.2.1
          have HB := Aside0.mk hinv.2.2.2.2.2.2.2
          have hds : D.size = 8 := by rw [← hD]; simp [nums, addN_len, HS8.out]
          have HZS := Aside0.mk (show (nums .u32 (List.replicate 8 0)).toArray.size = D.size by rw [hds]; simp [nums])
          have HIF := Aside0.mk (show (Try.prog.info? 107).map (·.size) = some D.size by rw [hds]; exact info_8)
          have HONE := Aside0.mk (show D.all (·.oneCell') = true by rw [← hD]; exact nums_one _ _)
          have HFIN := Aside0.mk (show D = (nums .u32 (press s b)).toArray by
            rw [← hD, HJ.out, addN_all HS8.out HVL.out, ← HVE.out, HKE.out, press, HWE.out])
          clear hD hds h2 hinv hlt hj HA
          go_wp2_with (first
            | ((with_reducible refine gate_dst (N := 113) rfl ?_); refine wpList_load_row rfl 107 (.tmp 2) rfl w.heap.size rfl 107 D (0, 0) _ H2.out Try.underlying107 rfl HIF.out ?_)
            | ((with_reducible refine gate_store (t := 107) (p := 4) (v := .tmp 113) rfl ?_); refine wpList_store_row rfl 107 (.tmp 4) (.tmp 113) rfl (w.heap.size + 1) D rfl rfl 107 _ H4.out HIF.out HZS.out HONE.out ?_))
          have HSR := setRow_heap wr (w.heap.size + 1) _ D _ _ H4.out
          refine bodyPost_ret (v := .agg D) (results_cell_row rfl _ _ (w.heap.size + 1) 107 D (0, 0) _ rfl HSR Try.underlying107 rfl HIF.out) rfl ⟨by rw [HFIN.out], below_setRow HB.out (by omega) D⟩
end Go.Proofs.Ytfpkgdenohcglaa.Sha
/- Bytes put one by one are blocks taken in: plain. -/
namespace Go.Proofs.Ytfpkgdenohcglaa.Sha
set_option linter.unusedVariables false
open Go.RowKit Go.Proofs.Ytfpkgdenohcglaa.Base Go.Proofs.Ytfpkgdenohcglaa.ShaPlain Go.Proofs.Ytfpkgdenohcglaa.Aid Go.Proofs.YtfpkgdenohcglaaW.PrintWords
theorem put_some {s r : List Int} {n : Nat} (hn : n % 64 = 0) (hr : r.length = 64) (B : List Int) (hB : B.length = 64) : ∀ j, j ≤ 63 → List.foldl put (s, r, n) (B.take j) = (s, B.take j ++ r.drop j, n + j) := by
  intro j
  induction j with
  | zero => intro _; simp
  | succ j ih =>
    intro hj
    have hjl : j < B.length := by omega
    rw [Aid.take_snoc B j hjl, List.foldl_append, ih (by omega)]
    show put (s, B.take j ++ r.drop j, n + j) B[j] = _
    unfold put
    dsimp only
    have hm : (n + j) % 64 = j := by omega
    rw [hm, if_neg (by omega), List.append_assoc]
    congr 2
    rw [List.set_append_right _ _ (by rw [List.length_take]; omega), List.length_take, Nat.min_eq_left (by omega), Nat.sub_self, List.drop_eq_getElem_cons (show j < r.length by omega)]
    rfl
theorem put_block {s r : List Int} {n : Nat} (hn : n % 64 = 0) (hr : r.length = 64) (B : List Int) (hB : B.length = 64) : List.foldl put (s, r, n) B = (press s B, B, n + 64) := by
  have h := put_some (s := s) hn hr B hB 63 (by omega)
  have e : B = B.take 63 ++ [B[63]'(by omega)] := by rw [← Aid.take_snoc B 63 (by omega), List.take_of_length_le (by omega)]
  have hset : (B.take 63 ++ r.drop 63).set 63 (B[63]'(by omega)) = B := by
    rw [List.set_append_right _ _ (by rw [List.length_take]; omega), List.length_take, Nat.min_eq_left (by omega), Nat.sub_self, List.drop_eq_getElem_cons (show 63 < r.length by omega), List.drop_of_length_le (by omega)]
    exact e.symm
  conv => lhs; rw [e]
  rw [List.foldl_append, h]
  show put (s, B.take 63 ++ r.drop 63, n + 63) (B[63]'(by omega)) = _
  unfold put
  dsimp only
  rw [show (n + 63) % 64 = 63 from by omega, if_pos rfl, hset]
/-- The state behind the first i blocks of bytes. -/
def blocks (L : List Int) : Nat → List Int
  | 0 => ShaPlain.start
  | i + 1 => press (blocks L i) ((L.drop (64 * i)).take 64)
theorem blocks_len (L : List Int) : ∀ i, (blocks L i).length = 8
  | 0 => rfl
  | i + 1 => press_len (blocks_len L i) _
theorem blocks_u32 (L : List Int) : ∀ i, U32 (blocks L i)
  | 0 => start_u32
  | i + 1 => press_u32 _ _
theorem put_blocks (L : List Int) : ∀ i, 64 * i ≤ L.length → ∃ r, r.length = 64 ∧ List.foldl put st0 (L.take (64 * i)) = (blocks L i, r, 64 * i) := by
  intro i
  induction i with
  | zero => intro _; exact ⟨_, by simp, rfl⟩
  | succ i ih =>
    intro h
    obtain ⟨r, hr, he⟩ := ih (by omega)
    have e : L.take (64 * (i + 1)) = L.take (64 * i) ++ (L.drop (64 * i)).take 64 := by rw [show 64 * (i + 1) = 64 * i + 64 from by omega, List.take_add]
    have hB : ((L.drop (64 * i)).take 64).length = 64 := by rw [List.length_take, List.length_drop]; omega
    refine ⟨_, hB, ?_⟩
    rw [e, List.foldl_append, he, put_block (by omega) hr _ hB]
    rfl
theorem shaB_eq (t : List Int) (m : Nat) (h : (t ++ padB t.length).length = 64 * m) : shaB t = outB (blocks (t ++ padB t.length) m) := by
  have hn : (List.foldl put st0 t).2.2 = t.length := by rw [puts_n]; show 0 + _ = _; omega
  obtain ⟨r, _, he⟩ := put_blocks (t ++ padB t.length) m (by omega)
  rw [List.take_of_length_le (by omega)] at he
  unfold shaB sumB
  rw [hn, ← List.foldl_append, he]
end Go.Proofs.Ytfpkgdenohcglaa.Sha
/- The document's sum walked. -/
namespace Go.Proofs.Ytfpkgdenohcglaa.Sha
set_option linter.unusedVariables false
open Go.RowKit Go.Proofs.Ytfpkgdenohcglaa.Base Go.Proofs.Ytfpkgdenohcglaa.ShaPlain Go.Proofs.Ytfpkgdenohcglaa.Aid Go.Proofs.YtfpkgdenohcglaaW.PrintWords Go.Proofs.YtfpkgdenohcglaaW.PrintLast Go.Proofs.YtfpkgdenohcglaaW.PrintMore
abbrev Z32 : Array Value := (nums .u8 (List.replicate 32 0)).toArray
theorem snoc_list {L : List Int} {k : Nat} {x : Int} (hk : k < L.length) (hx : L.getD k 0 = x) : L.take k ++ [x] = L.take (k + 1) := by
  rw [Aid.take_snoc L k hk, ← hx, List.getD_eq_getElem?_getD, List.getElem?_eq_getElem hk]; rfl
def FInv (w : World) (L : List Int) (v : Value) (W : World) : Prop := Ob W w.heap.size v L ∧ Below w.heap.size w W ∧ W.heap[w.heap.size]? = some (.cells Z32 23 (0, 0))
def SOI (w : World) (M : List Int) (A : Option Addr) (p k : Nat) (W : World) : Prop := Rb W A M ∧ (∀ a, A = some a → 0 < M.length → a.block < p) ∧ Below w.heap.size w W ∧ W.heap[w.heap.size]? = some (.cells Z32 23 (0, 0)) ∧ Words W p 107 (blocks M k) ∧ w.heap.size < p
theorem keep_row (W : World) (p : Nat) (cs : Array Value) : KeepBut W (W.setRow p cs) p none := ⟨Nat.le_of_eq (size_setRow _ _ _).symm, fun i _ hne _ => setRow_other W p i cs hne⟩
theorem still_load_row {P : Program} {ops : Array Oper} {rest : List Oper} {o : Oper} {a : Act} {w : World} {Q : Act → Prop} (hgd : o.guard = none) (ty : TypeId) (x : Operand) (ho : o.op = .load ty x)
    (g : Nat) (hx : a.eval x = .pointer (some ⟨g, 0, none⟩)) (t : TypeId) (cs : Array Value) (fr : Nat × Nat) (d : TypeDesc) (hg : w.heap[g]? = some (.cells cs t fr))
    (hu : P.underlying ty = some d) (hd : (match d with | .struct _ | .array _ _ => true | _ => false) = true) (hi : (P.info? ty).map (·.size) = some cs.size)
    (h : wpStill P ops w Q rest (a.put o.dst (.agg cs))) : wpStill P ops w Q (o :: rest) a := by
  unfold wpStill
  rw [if_pos (by simp [Region.wanted, hgd])]
  unfold Oper.still execOp
  simp only [ho, hx, Instr.loadAt, Instr.sureAddr, Sem.run_bind, Sem.run_pure, Result.andThen_ok, run_loadVar_row w g t ty cs fr d hg hu hd hi, Oper.stillUpon]
  exact ⟨trivial, h⟩
theorem rb_part {w : World} {A : Option Addr} {b : List Int} (h : Rb w A b) (x n c : Nat) (hc : b.length ≤ c) (hx : x + n ≤ b.length) (hn : ¬ c = x) : Rb w (A.map (·.add x)) ((b.drop x).take n) := by
  have h1 := ((Kd.reads_of_C (d := (0 : Int)) h).drop_ x (by omega) hc).take_ n (by omega)
  rw [if_neg hn] at h1
  have h2 := Kd.C_of_reads (d := (0 : Int)) (h1 := fun _ => rfl) h1
  show Kd.C _ w _ ((b.drop x).take n).length _
  rw [show ((b.drop x).take n).length = n from by rw [List.length_take, List.length_drop]; omega]
  exact h2
theorem part_u8 {b : List Int} (h : ∀ x ∈ b, 0 ≤ x ∧ x ≤ 255) (x n i : Nat) : 0 ≤ ((b.drop x).take n).getD i 0 ∧ ((b.drop x).take n).getD i 0 ≤ 255 := by
  rw [List.getD_eq_getElem?_getD]
  cases hq : ((b.drop x).take n)[i]? with
  | none => exact ⟨by decide, by decide⟩
  | some y => exact h y (List.mem_of_mem_drop (List.mem_of_mem_take (List.mem_of_getElem? hq)))
theorem pad_u8 {t : List Int} (h : ∀ x ∈ t, 0 ≤ x ∧ x ≤ 255) (n : Nat) : ∀ x ∈ t ++ padB n, 0 ≤ x ∧ x ≤ 255 := by
  intro x hx
  rcases List.mem_append.1 hx with hx | hx
  · exact h x hx
  · simp only [padB, sizeB, List.mem_cons, List.mem_append, List.mem_map, List.mem_range] at hx
    rcases hx with rfl | hx | ⟨i, _, rfl⟩
    · omega
    · rw [List.eq_of_mem_replicate hx]; omega
    · omega
/-- The answer's bytes under way. -/
def RI (w : World) (p p8 : Nat) (s : List Int) (k : Nat) (W : World) : Prop := Words W p 107 s ∧ Below w.heap.size w W ∧ W.heap[w.heap.size]? = some (.cells Z32 23 (0, 0)) ∧ W.heap[p8]? = some (.cells (nums .u8 (outN s k)).toArray 23 (0, 0)) ∧ p < p8 ∧ w.heap.size < p
theorem RI.next {w W : World} {p p8 k : Nat} {s : List Int} (h : RI w p p8 s k W) {x : Int} (hx : x = s.getD (k / 4) 0 / 2 ^ (24 - 8 * (k % 4)) % 256) : RI w p p8 s (k + 1) (W.setCell ⟨p8, k, none⟩ (.int .u8 x)) := by
  subst hx
  obtain ⟨h1, h2, h3, h4, h5, h6⟩ := h
  have hk : ∀ i o, W.heap[i]? = some o → i ≠ p8 → (W.setCell ⟨p8, k, none⟩ (.int .u8 (s.getD (k / 4) 0 / 2 ^ (24 - 8 * (k % 4)) % 256))).heap[i]? = some o := fun i o ho hne => (Below.heap_setCell W ⟨p8, k, none⟩ _ i hne).trans ho
  refine ⟨hk _ _ h1 (Nat.ne_of_lt h5), below_set h2 (Nat.le_of_lt (Nat.lt_trans h6 h5)), hk _ _ h3 (Nat.ne_of_lt (Nat.lt_trans h6 h5)), ?_, h5, h6⟩
  have := blk_set h4 k (.int .u8 (s.getD (k / 4) 0 / 2 ^ (24 - 8 * (k % 4)) % 256))
  rw [nums_set] at this
  exact this
theorem below_drew_of {w w' : World} (h : Below w.drew.heap.size w.drew w') : Below w.heap.size w w' := below_step (below_drew1 (Below.refl _ _)) h
theorem SOI.next {w W W' : World} {M : List Int} {A : Option Addr} {p k : Nat} (h : SOI w M A p k W) (hb : Below W.heap.size W W') {D : Array Value} (hD : D = (nums .u32 (blocks M (k + 1))).toArray) : SOI w M A p (k + 1) (W'.setRow p D) := by
  subst hD
  obtain ⟨h1, h2, h3, h4, h5, h6⟩ := h
  have k1 := keep_row W' p (nums .u32 (blocks M (k + 1))).toArray
  refine ⟨reads_keep (Kd.C_below h1 hb) k1 (fun a ha h0 => Nat.ne_of_lt (h2 a ha h0)), h2, below_setRow (below_step h3 hb) (Nat.le_of_lt h6) _, row_other (blk_below h4 hb) (Nat.ne_of_lt h6), setRow_heap _ _ _ _ _ _ (blk_below h5 hb), h6⟩
set_option maxHeartbeats 8000000 in
set_option maxRecDepth 100000 in
theorem rof_c (A : Option Addr) (c : Nat) (t : List Int) (w : World) (hr : Rb w A t) (hc : t.length ≤ c) (hu : ∀ x ∈ t, 0 ≤ x ∧ x ≤ 255) (hl : t.length ≤ 1000000) :
    Calls Try.prog 40 #[.slice A t.length c] w fun e w' => e = .returned (sumV (shaB t)) ∧ Below w.heap.size w w' := by
  have HR := Aside0.mk hr
  have HU := Aside0.mk hu
  have HL := Aside0.mk hl
  have HZ := Aside0.mk (show (w.alloc (.cells Z32 23)).heap[w.heap.size]? = some (.cells Z32 23 (0, 0)) from blk_new _ _)
  have HB := Aside0.mk (below_alloc (Below.refl w.heap.size w) (.cells Z32 23))
  obtain ⟨n, hn⟩ : ∃ n, t.length = n := ⟨_, rfl⟩
  have HN := Aside0.mk hn
  have n0 : (0 : Int) ≤ (n : Int) := by omega
  have n1 : (n : Int) ≤ 1000000 := by omega
  have HRN := Aside0.mk (show Kd.C (Kd.int .u8) w A n t by rw [← hn]; exact hr)
  rw [hn] at hc ⊢
  clear hr hu hl hn
  go_enter Try.func40, Try.ntmps40
  go_wp2_with (first
    | ((with_reducible refine gate_dst (N := 10) rfl ?_); refine Kd.R_lit (Kd.int .u8) w.heap.size 5 ?hg (N := 10) ?hd (xs := ([] : List Int)) (inner := []) (ok := fun _ => True) (okp := fun _ => True) ?hr ?hp (fun _ hk => hk) trivial HB.out HB.out.size (by simp) ?_; (case hd => rfl); (case hg => rfl); (case hr => first | (go_simp; done) | (go_simp; rfl)); (case hp => exact (Reps.none _ _)); intro v0 w3 ho4 hb hg_ hnew_; have HO := Aside0.mk ho4; have n2_ := Aside0.mk hb; have n3_ := Aside0.mk (blk_grown HZ.out hg_ (by simp)); clear HB HZ; have HB := n2_; have HZ := n3_; clear n2_ n3_ hb ho4 hg_ hnew_)
    | ((with_reducible refine gate_builtin (b := .append) (xs := #[.tmp 10, .tmp 11]) rfl ?_); at_builtin; refine Kd.R_append_rows (Kd.int .u8) (w0 := w) w.heap.size rfl (.tmp 10) (.tmp 11) 25 5 (.int .u8 0) 1 rfl Try.underlying25 info_u8 rfl (by decide) (by omega) v0 [] t _ _ _ (fun _ => True) (fun _ => False) rfl rfl HO.out (Kd.C_below HRN.out HB.out) (fun _ _ h => h) (fun _ h => h.elim) (fun _ _ => trivial) HB.out HB.out.size (by have := HL.out; have := HN.out; simp; omega) ?_; intro v1 w5 ho hb hg hat; have n1_ := Aside0.mk (blk_grown HZ.out hg (Kd.R_ne HO.out HZ.out (by decide))); have n2_ := Aside0.mk ho; have n3_ := Aside0.mk hb; clear HZ HO HB; have HZ := n1_; have HO := n2_; have HB := n3_; clear n1_ n2_ n3_ ho hb hg hat)
    | ((with_reducible refine gate_dst (N := 14) rfl ?_); (try (refine gate_guard (by rfl) ?_; dsimp only)); refine lit_bytes (N := 14) ?hg ?hd [128] [.int .u8 (128)] rfl ?hr (by simp) ?_; (case hd => rfl); (case hg => rfl); (case hr => first | (go_simp; done) | (go_simp; rfl)); intro v w1 ho hb; have n1_ := Aside0.mk (Kd.R_below HO.out hb); have n2_ := Aside0.mk (below_step HB.out hb); have n3_ := Aside0.mk (blk_below HZ.out hb); clear HO HB HZ; have HO := n1_; have HB := n2_; have HZ := n3_; clear n1_ n2_ n3_ hb; obtain ⟨Aq, cq, rfl, hl_, hr_⟩ := Ob.reads ho; have HRq := Aside0.mk hr_; have HLq := Aside0.mk hl_; clear ho hl_ hr_)
    | ((with_reducible refine gate_builtin (b := .append) (xs := #[.tmp 13, .tmp 14]) rfl ?_); at_builtin; refine Kd.R_append_rows (Kd.int .u8) (w0 := w) w.heap.size rfl (.tmp 13) (.tmp 14) 25 5 (.int .u8 0) 1 rfl Try.underlying25 info_u8 rfl (by decide) (by omega) v1 t [128] _ _ _ (fun _ => True) (fun _ => False) rfl rfl HO.out HRq.out (fun _ _ h => h) (fun _ h => h.elim) (fun _ _ => trivial) HB.out HB.out.size (by have := HL.out; simp; omega) ?_; intro v2 w5 ho hb hg hat; have n1_ := Aside0.mk (blk_grown HZ.out hg (Kd.R_ne HO.out HZ.out (by decide))); have n2_ := Aside0.mk ho; have n3_ := Aside0.mk hb; clear HZ HO HB; have HZ := n1_; have HO := n2_; have HB := n3_; clear n1_ n2_ n3_ ho hb hg hat))
  obtain ⟨z, hz⟩ : ∃ z, (119 - n % 64) % 64 = z := ⟨_, rfl⟩
  have HZZ := Aside0.mk hz
  clear hz
  have H0 := Aside0.mk (show FInv w (t ++ [128] ++ List.replicate (z - z) 0) v2 w5 by rw [Nat.sub_self]; simp only [List.replicate_zero, List.append_nil]; exact ⟨HO.out, HB.out, HZ.out⟩)
  clear HO HB HZ
  go_loopg [3] z (fun gk v wx => gk ≤ z ∧ FInv w (t ++ [128] ++ List.replicate (z - gk) 0) v wx)
  case atStart => exact ⟨Nat.le_refl _, H0.out⟩
  case round =>
    clear H0
    obtain ⟨hgk, hinv⟩ := hrel
    obtain ⟨L, hLe⟩ : ∃ L, t ++ [128] ++ List.replicate (z - gk) 0 = L := ⟨_, rfl⟩
    have HLE := Aside0.mk hLe
    have hlen : L.length = n + 1 + (z - gk) := by rw [← hLe]; simp only [List.length_append, List.length_replicate, List.length_cons, List.length_nil, HN.out]
    rw [hLe] at hinv
    have HO := Aside0.mk hinv.1
    have HB := Aside0.mk hinv.2.1
    have HZ := Aside0.mk hinv.2.2
    obtain ⟨A3, c3, rfl, hc3, hr3⟩ := Ob.reads hinv.1
    obtain ⟨m, hm⟩ : ∃ m, L.length = m := ⟨_, rfl⟩
    have HM := Aside0.mk hm
    rw [hm] at HO ⊢
    obtain ⟨qq, hqq⟩ : ∃ q, m % 64 = q := ⟨_, rfl⟩
    have hqi : (m : Int) % 64 = (qq : Int) := by omega
    have m0 : (0 : Int) ≤ (m : Int) := by omega
    have hz := HZZ.out
    by_cases h56 : qq = 56
    · have hbq : ((qq : Int) == 56) = true := by simp; omega
      have hbn : ((qq : Int) != 56) = false := by simp; omega
      have HGK := Aside0.mk (show z - gk = z by omega)
      have HMB := Aside0.mk (show m ≤ 1000064 by have := HL.out; have := HN.out; omega)
      have HM8 := Aside0.mk (show ∃ q, m + 8 = 64 * q from ⟨(m + 8) / 64, by omega⟩)
      clear hinv hLe hlen hm hqq h56 hz hgk hc3 hr3
      have HA := Aside0.mk (show FInv w (L ++ (sizeB (8 * n)).take 0) (.slice A3 m c3) wr by rw [List.take_zero, List.append_nil]; exact ⟨HO.out, HB.out, HZ.out⟩)
      go_wp2_with (fail)
      clear hbq hbn hqi HO HB HZ
      go_loopw [3, 5] (fun v i wx => ∃ k : Nat, k ≤ 8 ∧ i = .int .i64 k ∧ FInv w (L ++ (sizeB (8 * n)).take k) v wx) (fun _ i _ => 8 - (intOf i).toNat)
      case atStart => exact ⟨0, by omega, rfl, HA.out⟩
      case round =>
        clear HA
        obtain ⟨k, hk, rfl, hinv⟩ := hrel
        obtain ⟨L4, hL4⟩ : ∃ L4, L ++ (sizeB (8 * n)).take k = L4 := ⟨_, rfl⟩
        have HL4 := Aside0.mk hL4
        have hm4 : L4.length = m + k := by rw [← hL4, List.length_append, List.length_take, sizeB_len, HM.out]; omega
        rw [hL4] at hinv
        have HO := Aside0.mk hinv.1
        have HB := Aside0.mk hinv.2.1
        have HZ := Aside0.mk hinv.2.2
        obtain ⟨A4, c4, rfl, hc4, hr4⟩ := Ob.reads hinv.1
        have HR4 := Aside0.mk hr4
        have HM4 := Aside0.mk hm4
        by_cases hlt : k < 8
        · have h8 : k = 0 ∨ k = 1 ∨ k = 2 ∨ k = 3 ∨ k = 4 ∨ k = 5 ∨ k = 6 ∨ k = 7 := by omega
          clear hk hlt hinv hc4 hr4 hm4 hL4
          rcases h8 with rfl | rfl | rfl | rfl | rfl | rfl | rfl | rfl
          · go_wp2_with (first
              | ((with_reducible refine gate_dst (N := 39) rfl ?_); (try (refine gate_guard (by rfl) ?_; dsimp only)); refine lit_bytes (N := 39) ?hg ?hd [(n : Int) * 8 / 72057594037927936] [.int .u8 ((n : Int) * 8 / 72057594037927936)] rfl ?hr (by simp) ?_; (case hd => rfl); (case hg => rfl); (case hr => first | (go_simp; done) | (go_simp; rfl)); intro v w1 ho hb; have n1_ := Aside0.mk (Kd.R_below HO.out hb); have n2_ := Aside0.mk (below_step HB.out hb); have n3_ := Aside0.mk (blk_below HZ.out hb); clear HO HB HZ; have HO := n1_; have HB := n2_; have HZ := n3_; clear n1_ n2_ n3_ hb; obtain ⟨As, cs, rfl, hl_, hr_⟩ := Ob.reads ho; have HRs := Aside0.mk hr_; have HLs := Aside0.mk hl_; clear ho hl_ hr_)
              | ((with_reducible refine gate_builtin (b := .append) (xs := #[.tmp 31, .tmp 39]) rfl ?_); at_builtin; refine Kd.R_append_rows (Kd.int .u8) (w0 := w) w.heap.size rfl (.tmp 31) (.tmp 39) 25 5 (.int .u8 0) 1 rfl Try.underlying25 info_u8 rfl (by decide) (by omega) (.slice A4 L4.length c4) L4 [(n : Int) * 8 / 72057594037927936] _ _ _ (fun _ => True) (fun _ => False) rfl rfl HO.out HRs.out (fun _ _ h => h) (fun _ h => h.elim) (fun _ _ => trivial) HB.out HB.out.size (by have := HMB.out; have := HM4.out; simp; omega) ?_; intro v6 w5 ho hb hg hat; have n1_ := Aside0.mk (blk_grown HZ.out hg (Kd.R_ne HO.out HZ.out (by decide))); have n2_ := Aside0.mk ho; have n3_ := Aside0.mk hb; clear HZ HO HB; have HZ := n1_; have HO := n2_; have HB := n3_; clear n1_ n2_ n3_ ho hb hg hat))
            rw [← HL4.out, List.append_assoc, snoc_list (k := 0) (by rw [sizeB_len]; omega) (by show ((8 * n / 2 ^ (56 - 8 * 0) % 256 : Nat) : Int) = _; simp only [Nat.reduceMul, Nat.reduceSub, Nat.reducePow]; omega)] at HO
            go_roundw
            case rel => exact ⟨1, by omega, rfl, HO.out, HB.out, HZ.out⟩
            case measure => simp [intOf]
          · go_wp2_with (first
              | ((with_reducible refine gate_dst (N := 39) rfl ?_); (try (refine gate_guard (by rfl) ?_; dsimp only)); refine lit_bytes (N := 39) ?hg ?hd [(n : Int) * 8 / 281474976710656] [.int .u8 ((n : Int) * 8 / 281474976710656)] rfl ?hr (by simp) ?_; (case hd => rfl); (case hg => rfl); (case hr => first | (go_simp; done) | (go_simp; rfl)); intro v w1 ho hb; have n1_ := Aside0.mk (Kd.R_below HO.out hb); have n2_ := Aside0.mk (below_step HB.out hb); have n3_ := Aside0.mk (blk_below HZ.out hb); clear HO HB HZ; have HO := n1_; have HB := n2_; have HZ := n3_; clear n1_ n2_ n3_ hb; obtain ⟨As, cs, rfl, hl_, hr_⟩ := Ob.reads ho; have HRs := Aside0.mk hr_; have HLs := Aside0.mk hl_; clear ho hl_ hr_)
              | ((with_reducible refine gate_builtin (b := .append) (xs := #[.tmp 31, .tmp 39]) rfl ?_); at_builtin; refine Kd.R_append_rows (Kd.int .u8) (w0 := w) w.heap.size rfl (.tmp 31) (.tmp 39) 25 5 (.int .u8 0) 1 rfl Try.underlying25 info_u8 rfl (by decide) (by omega) (.slice A4 L4.length c4) L4 [(n : Int) * 8 / 281474976710656] _ _ _ (fun _ => True) (fun _ => False) rfl rfl HO.out HRs.out (fun _ _ h => h) (fun _ h => h.elim) (fun _ _ => trivial) HB.out HB.out.size (by have := HMB.out; have := HM4.out; simp; omega) ?_; intro v6 w5 ho hb hg hat; have n1_ := Aside0.mk (blk_grown HZ.out hg (Kd.R_ne HO.out HZ.out (by decide))); have n2_ := Aside0.mk ho; have n3_ := Aside0.mk hb; clear HZ HO HB; have HZ := n1_; have HO := n2_; have HB := n3_; clear n1_ n2_ n3_ ho hb hg hat))
            rw [← HL4.out, List.append_assoc, snoc_list (k := 1) (by rw [sizeB_len]; omega) (by show ((8 * n / 2 ^ (56 - 8 * 1) % 256 : Nat) : Int) = _; simp only [Nat.reduceMul, Nat.reduceSub, Nat.reducePow]; omega)] at HO
            go_roundw
            case rel => exact ⟨2, by omega, rfl, HO.out, HB.out, HZ.out⟩
            case measure => simp [intOf]
          · go_wp2_with (first
              | ((with_reducible refine gate_dst (N := 39) rfl ?_); (try (refine gate_guard (by rfl) ?_; dsimp only)); refine lit_bytes (N := 39) ?hg ?hd [(n : Int) * 8 / 1099511627776] [.int .u8 ((n : Int) * 8 / 1099511627776)] rfl ?hr (by simp) ?_; (case hd => rfl); (case hg => rfl); (case hr => first | (go_simp; done) | (go_simp; rfl)); intro v w1 ho hb; have n1_ := Aside0.mk (Kd.R_below HO.out hb); have n2_ := Aside0.mk (below_step HB.out hb); have n3_ := Aside0.mk (blk_below HZ.out hb); clear HO HB HZ; have HO := n1_; have HB := n2_; have HZ := n3_; clear n1_ n2_ n3_ hb; obtain ⟨As, cs, rfl, hl_, hr_⟩ := Ob.reads ho; have HRs := Aside0.mk hr_; have HLs := Aside0.mk hl_; clear ho hl_ hr_)
              | ((with_reducible refine gate_builtin (b := .append) (xs := #[.tmp 31, .tmp 39]) rfl ?_); at_builtin; refine Kd.R_append_rows (Kd.int .u8) (w0 := w) w.heap.size rfl (.tmp 31) (.tmp 39) 25 5 (.int .u8 0) 1 rfl Try.underlying25 info_u8 rfl (by decide) (by omega) (.slice A4 L4.length c4) L4 [(n : Int) * 8 / 1099511627776] _ _ _ (fun _ => True) (fun _ => False) rfl rfl HO.out HRs.out (fun _ _ h => h) (fun _ h => h.elim) (fun _ _ => trivial) HB.out HB.out.size (by have := HMB.out; have := HM4.out; simp; omega) ?_; intro v6 w5 ho hb hg hat; have n1_ := Aside0.mk (blk_grown HZ.out hg (Kd.R_ne HO.out HZ.out (by decide))); have n2_ := Aside0.mk ho; have n3_ := Aside0.mk hb; clear HZ HO HB; have HZ := n1_; have HO := n2_; have HB := n3_; clear n1_ n2_ n3_ ho hb hg hat))
            rw [← HL4.out, List.append_assoc, snoc_list (k := 2) (by rw [sizeB_len]; omega) (by show ((8 * n / 2 ^ (56 - 8 * 2) % 256 : Nat) : Int) = _; simp only [Nat.reduceMul, Nat.reduceSub, Nat.reducePow]; omega)] at HO
            go_roundw
            case rel => exact ⟨3, by omega, rfl, HO.out, HB.out, HZ.out⟩
            case measure => simp [intOf]
          · go_wp2_with (first
              | ((with_reducible refine gate_dst (N := 39) rfl ?_); (try (refine gate_guard (by rfl) ?_; dsimp only)); refine lit_bytes (N := 39) ?hg ?hd [(n : Int) * 8 / 4294967296] [.int .u8 ((n : Int) * 8 / 4294967296)] rfl ?hr (by simp) ?_; (case hd => rfl); (case hg => rfl); (case hr => first | (go_simp; done) | (go_simp; rfl)); intro v w1 ho hb; have n1_ := Aside0.mk (Kd.R_below HO.out hb); have n2_ := Aside0.mk (below_step HB.out hb); have n3_ := Aside0.mk (blk_below HZ.out hb); clear HO HB HZ; have HO := n1_; have HB := n2_; have HZ := n3_; clear n1_ n2_ n3_ hb; obtain ⟨As, cs, rfl, hl_, hr_⟩ := Ob.reads ho; have HRs := Aside0.mk hr_; have HLs := Aside0.mk hl_; clear ho hl_ hr_)
              | ((with_reducible refine gate_builtin (b := .append) (xs := #[.tmp 31, .tmp 39]) rfl ?_); at_builtin; refine Kd.R_append_rows (Kd.int .u8) (w0 := w) w.heap.size rfl (.tmp 31) (.tmp 39) 25 5 (.int .u8 0) 1 rfl Try.underlying25 info_u8 rfl (by decide) (by omega) (.slice A4 L4.length c4) L4 [(n : Int) * 8 / 4294967296] _ _ _ (fun _ => True) (fun _ => False) rfl rfl HO.out HRs.out (fun _ _ h => h) (fun _ h => h.elim) (fun _ _ => trivial) HB.out HB.out.size (by have := HMB.out; have := HM4.out; simp; omega) ?_; intro v6 w5 ho hb hg hat; have n1_ := Aside0.mk (blk_grown HZ.out hg (Kd.R_ne HO.out HZ.out (by decide))); have n2_ := Aside0.mk ho; have n3_ := Aside0.mk hb; clear HZ HO HB; have HZ := n1_; have HO := n2_; have HB := n3_; clear n1_ n2_ n3_ ho hb hg hat))
            rw [← HL4.out, List.append_assoc, snoc_list (k := 3) (by rw [sizeB_len]; omega) (by show ((8 * n / 2 ^ (56 - 8 * 3) % 256 : Nat) : Int) = _; simp only [Nat.reduceMul, Nat.reduceSub, Nat.reducePow]; omega)] at HO
            go_roundw
            case rel => exact ⟨4, by omega, rfl, HO.out, HB.out, HZ.out⟩
            case measure => simp [intOf]
          · go_wp2_with (first
              | ((with_reducible refine gate_dst (N := 39) rfl ?_); (try (refine gate_guard (by rfl) ?_; dsimp only)); refine lit_bytes (N := 39) ?hg ?hd [(n : Int) * 8 / 16777216] [.int .u8 ((n : Int) * 8 / 16777216)] rfl ?hr (by simp) ?_; (case hd => rfl); (case hg => rfl); (case hr => first | (go_simp; done) | (go_simp; rfl)); intro v w1 ho hb; have n1_ := Aside0.mk (Kd.R_below HO.out hb); have n2_ := Aside0.mk (below_step HB.out hb); have n3_ := Aside0.mk (blk_below HZ.out hb); clear HO HB HZ; have HO := n1_; have HB := n2_; have HZ := n3_; clear n1_ n2_ n3_ hb; obtain ⟨As, cs, rfl, hl_, hr_⟩ := Ob.reads ho; have HRs := Aside0.mk hr_; have HLs := Aside0.mk hl_; clear ho hl_ hr_)
              | ((with_reducible refine gate_builtin (b := .append) (xs := #[.tmp 31, .tmp 39]) rfl ?_); at_builtin; refine Kd.R_append_rows (Kd.int .u8) (w0 := w) w.heap.size rfl (.tmp 31) (.tmp 39) 25 5 (.int .u8 0) 1 rfl Try.underlying25 info_u8 rfl (by decide) (by omega) (.slice A4 L4.length c4) L4 [(n : Int) * 8 / 16777216] _ _ _ (fun _ => True) (fun _ => False) rfl rfl HO.out HRs.out (fun _ _ h => h) (fun _ h => h.elim) (fun _ _ => trivial) HB.out HB.out.size (by have := HMB.out; have := HM4.out; simp; omega) ?_; intro v6 w5 ho hb hg hat; have n1_ := Aside0.mk (blk_grown HZ.out hg (Kd.R_ne HO.out HZ.out (by decide))); have n2_ := Aside0.mk ho; have n3_ := Aside0.mk hb; clear HZ HO HB; have HZ := n1_; have HO := n2_; have HB := n3_; clear n1_ n2_ n3_ ho hb hg hat))
            rw [← HL4.out, List.append_assoc, snoc_list (k := 4) (by rw [sizeB_len]; omega) (by show ((8 * n / 2 ^ (56 - 8 * 4) % 256 : Nat) : Int) = _; simp only [Nat.reduceMul, Nat.reduceSub, Nat.reducePow]; omega)] at HO
            go_roundw
            case rel => exact ⟨5, by omega, rfl, HO.out, HB.out, HZ.out⟩
            case measure => simp [intOf]
          · go_wp2_with (first
              | ((with_reducible refine gate_dst (N := 39) rfl ?_); (try (refine gate_guard (by rfl) ?_; dsimp only)); refine lit_bytes (N := 39) ?hg ?hd [(n : Int) * 8 / 65536] [.int .u8 ((n : Int) * 8 / 65536)] rfl ?hr (by simp) ?_; (case hd => rfl); (case hg => rfl); (case hr => first | (go_simp; done) | (go_simp; rfl)); intro v w1 ho hb; have n1_ := Aside0.mk (Kd.R_below HO.out hb); have n2_ := Aside0.mk (below_step HB.out hb); have n3_ := Aside0.mk (blk_below HZ.out hb); clear HO HB HZ; have HO := n1_; have HB := n2_; have HZ := n3_; clear n1_ n2_ n3_ hb; obtain ⟨As, cs, rfl, hl_, hr_⟩ := Ob.reads ho; have HRs := Aside0.mk hr_; have HLs := Aside0.mk hl_; clear ho hl_ hr_)
              | ((with_reducible refine gate_builtin (b := .append) (xs := #[.tmp 31, .tmp 39]) rfl ?_); at_builtin; refine Kd.R_append_rows (Kd.int .u8) (w0 := w) w.heap.size rfl (.tmp 31) (.tmp 39) 25 5 (.int .u8 0) 1 rfl Try.underlying25 info_u8 rfl (by decide) (by omega) (.slice A4 L4.length c4) L4 [(n : Int) * 8 / 65536] _ _ _ (fun _ => True) (fun _ => False) rfl rfl HO.out HRs.out (fun _ _ h => h) (fun _ h => h.elim) (fun _ _ => trivial) HB.out HB.out.size (by have := HMB.out; have := HM4.out; simp; omega) ?_; intro v6 w5 ho hb hg hat; have n1_ := Aside0.mk (blk_grown HZ.out hg (Kd.R_ne HO.out HZ.out (by decide))); have n2_ := Aside0.mk ho; have n3_ := Aside0.mk hb; clear HZ HO HB; have HZ := n1_; have HO := n2_; have HB := n3_; clear n1_ n2_ n3_ ho hb hg hat))
            rw [← HL4.out, List.append_assoc, snoc_list (k := 5) (by rw [sizeB_len]; omega) (by show ((8 * n / 2 ^ (56 - 8 * 5) % 256 : Nat) : Int) = _; simp only [Nat.reduceMul, Nat.reduceSub, Nat.reducePow]; omega)] at HO
            go_roundw
            case rel => exact ⟨6, by omega, rfl, HO.out, HB.out, HZ.out⟩
            case measure => simp [intOf]
          · go_wp2_with (first
              | ((with_reducible refine gate_dst (N := 39) rfl ?_); (try (refine gate_guard (by rfl) ?_; dsimp only)); refine lit_bytes (N := 39) ?hg ?hd [(n : Int) * 8 / 256 % 256] [.int .u8 ((n : Int) * 8 / 256 % 256)] rfl ?hr (by simp) ?_; (case hd => rfl); (case hg => rfl); (case hr => first | (go_simp; done) | (go_simp; rfl)); intro v w1 ho hb; have n1_ := Aside0.mk (Kd.R_below HO.out hb); have n2_ := Aside0.mk (below_step HB.out hb); have n3_ := Aside0.mk (blk_below HZ.out hb); clear HO HB HZ; have HO := n1_; have HB := n2_; have HZ := n3_; clear n1_ n2_ n3_ hb; obtain ⟨As, cs, rfl, hl_, hr_⟩ := Ob.reads ho; have HRs := Aside0.mk hr_; have HLs := Aside0.mk hl_; clear ho hl_ hr_)
              | ((with_reducible refine gate_builtin (b := .append) (xs := #[.tmp 31, .tmp 39]) rfl ?_); at_builtin; refine Kd.R_append_rows (Kd.int .u8) (w0 := w) w.heap.size rfl (.tmp 31) (.tmp 39) 25 5 (.int .u8 0) 1 rfl Try.underlying25 info_u8 rfl (by decide) (by omega) (.slice A4 L4.length c4) L4 [(n : Int) * 8 / 256 % 256] _ _ _ (fun _ => True) (fun _ => False) rfl rfl HO.out HRs.out (fun _ _ h => h) (fun _ h => h.elim) (fun _ _ => trivial) HB.out HB.out.size (by have := HMB.out; have := HM4.out; simp; omega) ?_; intro v6 w5 ho hb hg hat; have n1_ := Aside0.mk (blk_grown HZ.out hg (Kd.R_ne HO.out HZ.out (by decide))); have n2_ := Aside0.mk ho; have n3_ := Aside0.mk hb; clear HZ HO HB; have HZ := n1_; have HO := n2_; have HB := n3_; clear n1_ n2_ n3_ ho hb hg hat))
            rw [← HL4.out, List.append_assoc, snoc_list (k := 6) (by rw [sizeB_len]; omega) (by show ((8 * n / 2 ^ (56 - 8 * 6) % 256 : Nat) : Int) = _; simp only [Nat.reduceMul, Nat.reduceSub, Nat.reducePow]; omega)] at HO
            go_roundw
            case rel => exact ⟨7, by omega, rfl, HO.out, HB.out, HZ.out⟩
            case measure => simp [intOf]
          · go_wp2_with (first
              | ((with_reducible refine gate_dst (N := 39) rfl ?_); (try (refine gate_guard (by rfl) ?_; dsimp only)); refine lit_bytes (N := 39) ?hg ?hd [(n : Int) * 8 % 256] [.int .u8 ((n : Int) * 8 % 256)] rfl ?hr (by simp) ?_; (case hd => rfl); (case hg => rfl); (case hr => first | (go_simp; done) | (go_simp; rfl)); intro v w1 ho hb; have n1_ := Aside0.mk (Kd.R_below HO.out hb); have n2_ := Aside0.mk (below_step HB.out hb); have n3_ := Aside0.mk (blk_below HZ.out hb); clear HO HB HZ; have HO := n1_; have HB := n2_; have HZ := n3_; clear n1_ n2_ n3_ hb; obtain ⟨As, cs, rfl, hl_, hr_⟩ := Ob.reads ho; have HRs := Aside0.mk hr_; have HLs := Aside0.mk hl_; clear ho hl_ hr_)
              | ((with_reducible refine gate_builtin (b := .append) (xs := #[.tmp 31, .tmp 39]) rfl ?_); at_builtin; refine Kd.R_append_rows (Kd.int .u8) (w0 := w) w.heap.size rfl (.tmp 31) (.tmp 39) 25 5 (.int .u8 0) 1 rfl Try.underlying25 info_u8 rfl (by decide) (by omega) (.slice A4 L4.length c4) L4 [(n : Int) * 8 % 256] _ _ _ (fun _ => True) (fun _ => False) rfl rfl HO.out HRs.out (fun _ _ h => h) (fun _ h => h.elim) (fun _ _ => trivial) HB.out HB.out.size (by have := HMB.out; have := HM4.out; simp; omega) ?_; intro v6 w5 ho hb hg hat; have n1_ := Aside0.mk (blk_grown HZ.out hg (Kd.R_ne HO.out HZ.out (by decide))); have n2_ := Aside0.mk ho; have n3_ := Aside0.mk hb; clear HZ HO HB; have HZ := n1_; have HO := n2_; have HB := n3_; clear n1_ n2_ n3_ ho hb hg hat))
            rw [← HL4.out, List.append_assoc, snoc_list (k := 7) (by rw [sizeB_len]; omega) (by show ((8 * n / 2 ^ (56 - 8 * 7) % 256 : Nat) : Int) = _; simp only [Nat.reduceMul, Nat.reduceSub, Nat.reducePow]; omega)] at HO
            go_roundw
            case rel => exact ⟨8, by omega, rfl, HO.out, HB.out, HZ.out⟩
            case measure => simp [intOf]
        · have HKE := Aside0.mk (show k = 8 by omega)
          have hge : 8 ≤ k := by omega
          have hdk : decide ((k : Int) < 8) = false := decide_eq_false (by omega)
          have HPAD := Aside0.mk (show L4 = t ++ padB n by
            rw [← HL4.out, HKE.out, List.take_of_length_le (by rw [sizeB_len]; omega), ← HLE.out, HGK.out, ← HZZ.out, padB]
            simp)
          have HC4 := Aside0.mk hc4
          have HLU := Aside0.mk (show ∀ x ∈ L4, 0 ≤ x ∧ x ≤ 255 by rw [HPAD.out]; exact pad_u8 HU.out n)
          obtain ⟨qq, hq8⟩ := HM8.out
          have HQ := Aside0.mk (show L4.length = 64 * qq by rw [hm4]; omega)
          have HQB := Aside0.mk (show qq ≤ 20000 by have := HMB.out; omega)
          clear hlt hk hinv hL4 hm4 hc4 hr4 hq8
          go_wp2_with (fail)
          have H0 := Aside0.mk (show SOI w L4 A4 wr.heap.size 0 (wr.alloc (.cells #[.int .u32 1779033703, .int .u32 3144134277, .int .u32 1013904242, .int .u32 2773480762, .int .u32 1359893119, .int .u32 2600822924, .int .u32 528734635, .int .u32 1541459225] 107)) from
            ⟨Kd.C_below HR4.out (below_alloc (Below.refl _ _) _), fun a ha h0 => reads_lt HR4.out a ha h0, below_alloc HB.out _, blk_alloc HZ.out _, by exact blk_new _ _, blk_lt HZ.out⟩)
          obtain ⟨mm, hmm⟩ : ∃ mm, L4.length = mm := ⟨_, rfl⟩
          obtain ⟨p, hp⟩ : ∃ p, wr.heap.size = p := ⟨_, rfl⟩
          have HMM := Aside0.mk hmm
          rw [hmm, hp]
          rw [hp] at H0
          clear hge hdk HB HZ HO HR4 hmm hp
          go_loopw [7] (fun i wx => ∃ j x : Nat, x = 64 * j ∧ j ≤ qq ∧ i = .int .i64 x ∧ SOI w L4 A4 p j wx) (fun i _ => mm - (intOf i).toNat)
          case atStart => exact ⟨0, 0, by omega, by omega, rfl, H0.out⟩
          case round =>
            clear H0
            obtain ⟨j, x, hx, hj, rfl, hinv⟩ := hrel
            have HI := Aside0.mk hinv
            have HX := Aside0.mk hx
            by_cases hlt : j < qq
            · have hm := HMM.out
              have hc := HC4.out
              have hq := HQ.out
              have hqb := HQB.out
              have g1 : (x : Int) < (mm : Int) := by omega
              have g2 : (x : Int) + 64 ≤ (c4 : Int) := by omega
              have g3 : (0 : Int) ≤ (x : Int) := by omega
              have g4 : (x : Int) ≤ 2000000 := by omega
              obtain ⟨D, hD⟩ : ∃ D, (nums .u32 (blocks L4 j)).toArray = D := ⟨_, rfl⟩
              have HD := Aside0.mk hD
              have h2 := hinv.2.2.2.2.1
              unfold Words at h2
              rw [hD] at h2
              have H2 := Aside0.mk (show wr.drew.heap[p]? = some (.cells D 107 (0, 0)) from h2)
              have HIF := Aside0.mk (show (Try.prog.info? 107).map (·.size) = some D.size by rw [← hD, show (nums .u32 (blocks L4 j)).toArray.size = 8 by simp [nums, blocks_len]]; exact info_8)
              clear hD h2
              have g5 : IntKind.i64.wrap ((x : Int) + 64) = (x : Int) + 64 := IntWalk.i64_in _ (by omega)
              have g6 : (0 : Int) ≤ (x : Int) + 64 := by omega
              have g7 : ((x : Int) + 64).toNat = x + 64 := by omega
              have g8 : ¬ c4 = x := by omega
              have g9 : x + 64 - x = 64 := by omega
              have HG := Aside0.mk (show x + 64 ≤ mm by omega)
              clear hm hc hq hqb hinv hx hj hlt
              go_wp2
              go_still_tail 6, (by kernel_rfl)
              change wpStill _ _ wr.drew _ _ _
              refine still_load_row rfl 107 (.tmp 6) rfl p rfl 107 D (0, 0) _ H2.out Try.underlying107 rfl HIF.out ?_
              repeat still_step
              refine wpStill_nil ?_
              change wpList _ _ _ _ _ wr.drew
              have HSB := Aside0.mk (show SOI w L4 A4 p j wr.drew from ⟨HI.out.1, HI.out.2.1, below_drew1 HI.out.2.2.1, HI.out.2.2.2⟩)
              have hcall := (block_c (A4.map (·.add x)) (c4 - x) ((L4.drop x).take 64) (blocks L4 j) wr.drew (rb_part HSB.out.1 x 64 c4 HC4.out (by have := HMM.out; have := HG.out; omega) (by have := HG.out; have := HMM.out; have := HC4.out; omega)) (by have := HG.out; have := HMM.out; have := HC4.out; omega) (by rw [List.length_take, List.length_drop]; have := HMM.out; have := HG.out; omega) (fun i hi => by
                have := part_u8 (HLU.out) x 64 i
                exact this) (blocks_len _ _) (blocks_u32 _ _))
              rw [show wordsV (blocks L4 j) = .agg D by rw [← HD.out]] at hcall
              have HCALL := Aside0.mk hcall
              clear hcall g1 g2 g3 g5 g6 g7 g8 g9
              go_wp2_with (fail)
              refine HCALL.out.mono ?_
              rintro e w2 ⟨rfl, h2⟩
              rw [show press (blocks L4 j) ((L4.drop x).take 64) = blocks L4 (j + 1) by rw [HX.out]; rfl]
              obtain ⟨D', hD'⟩ : ∃ D', (nums .u32 (blocks L4 (j + 1))).toArray = D' := ⟨_, rfl⟩
              have HD' := Aside0.mk hD'
              have hds : D'.size = 8 := by rw [← hD']; simp [nums, blocks_len]
              have HOL := Aside0.mk (show w2.heap[p]? = some (.cells D 107 (0, 0)) from blk_below H2.out h2)
              have HIF' := Aside0.mk (show (Try.prog.info? 107).map (·.size) = some D'.size by rw [hds]; exact info_8)
              have HSZ := Aside0.mk (show D.size = D'.size by rw [hds, ← HD.out]; simp [nums, blocks_len])
              have HONE := Aside0.mk (show D'.all (·.oneCell') = true by rw [← hD']; exact nums_one _ _)
              have H2B := Aside0.mk h2
              rw [show wordsV (blocks L4 (j + 1)) = .agg D' from by rw [← hD']]
              clear hD' hds h2 HSB
              go_wp2_with (first
                | ((with_reducible refine gate_store (t := 107) (p := 6) (v := .tmp 54) rfl ?_); refine wpList_store_row rfl 107 (.tmp 6) (.tmp 54) rfl p D' rfl rfl 107 D HOL.out HIF'.out HSZ.out HONE.out ?_))
              go_roundw
              case rel => exact ⟨j + 1, x + 64, by have := HX.out; omega, by have := HG.out; have := HQ.out; have := HX.out; have := HMM.out; omega, by go_num, SOI.next HI.out (below_drew_of H2B.out) HD'.out.symm⟩
              case measure => have := HG.out; simp [intOf]; omega
            · have HJ := Aside0.mk (show j = qq by omega)
              have hge : mm ≤ x := by have := HMM.out; have := HQ.out; omega
              have hdk : decide ((x : Int) < (mm : Int)) = false := decide_eq_false (by omega)
              clear hx hj hlt hinv
              go_wp2_with (fail)
              obtain ⟨s, hs⟩ : ∃ s, blocks L4 j = s := ⟨_, rfl⟩
              have HS := Aside0.mk hs
              have HSL := Aside0.mk (show s.length = 8 by rw [← hs]; exact blocks_len _ _)
              have HSU := Aside0.mk (show U32 s by rw [← hs]; exact blocks_u32 _ _)
              have HFIN := Aside0.mk (show shaB t = outB s by
                have e : t ++ padB t.length = L4 := by rw [HN.out]; exact HPAD.out.symm
                rw [shaB_eq t qq (by rw [e]; exact HQ.out), e, ← HJ.out, hs])
              obtain ⟨p8, hp8⟩ : ∃ x, wr.heap.size = x := ⟨_, rfl⟩
              have H8 := Aside0.mk (show RI w p p8 s 0 (wr.alloc (.cells Z32 23)) from ⟨by rw [← hs]; exact blk_alloc HI.out.2.2.2.2.1 _, below_alloc HI.out.2.2.1 _, blk_alloc HI.out.2.2.2.1 _, by rw [← hp8]; exact blk_new _ _, by rw [← hp8]; exact blk_lt HI.out.2.2.2.2.1, HI.out.2.2.2.2.2⟩)
              rw [hp8]
              clear hge hdk hs hp8 HI
              go_loopw [9] (fun i wx => ∃ m : Nat, m ≤ 32 ∧ i = .int .i64 m ∧ RI w p p8 s m wx) (fun i _ => 32 - (intOf i).toNat)
              case atStart => exact ⟨0, by omega, rfl, H8.out⟩
              case round =>
                clear H8
                obtain ⟨m, hm, rfl, hinv⟩ := hrel
                have HO := Aside0.mk hinv
                by_cases hlt : m < 32
                · obtain ⟨q, hq⟩ : ∃ q, m / 4 = q := ⟨_, rfl⟩
                  have HQ4 := Aside0.mk hq
                  have hc := hinv.1.cell q (by rw [HSL.out]; omega)
                  have hxr := HSU.out.at q
                  have hcell : wr.cell? ⟨p8, m, none⟩ = some (.int .u8 ((outN s m).getD m 0)) := by
                    rw [blk_cell hinv.2.2.2.1 m]
                    simp [nums, List.getElem?_eq_getElem (show m < (outN s m).length by rw [outN_len]; omega), List.getD_eq_getElem?_getD]
                  have hfree := blk_frozen hinv.2.2.2.1 m
                  obtain ⟨y, hy⟩ : ∃ x, s.getD q 0 = x := ⟨_, rfl⟩
                  obtain ⟨old, hold⟩ : ∃ x, (outN s m).getD m 0 = x := ⟨_, rfl⟩
                  rw [hy] at hc hxr
                  rw [hold] at hcell
                  have HY := Aside0.mk hy
                  have x0 := hxr.1
                  have x1 := hxr.2
                  have hqi : (m : Int) / 4 = (q : Int) := by omega
                  have q0 : (0 : Int) ≤ (q : Int) := by omega
                  have q1 : (q : Int) < 8 := by omega
                  have m0 : (0 : Int) ≤ (m : Int) := by omega
                  have m1 : (m : Int) < 32 := by omega
                  have hr4 : m % 4 = 0 ∨ m % 4 = 1 ∨ m % 4 = 2 ∨ m % 4 = 3 := by omega
                  clear hinv hold hxr hq hy
                  rcases hr4 with hr4 | hr4 | hr4 | hr4
                  · have hri : (m : Int) % 4 = 0 := by omega
                    have HR4 := Aside0.mk hr4
                    clear hr4
                    go_wp2
                    go_roundw
                    case rel => exact ⟨m + 1, by omega, by go_num, HO.out.next (by rw [HQ4.out, HY.out, HR4.out]; simp only [Nat.reduceMul, Nat.reduceSub, Int.reducePow] <;> omega)⟩
                    case measure => simp [intOf]; omega
                  · have hri : (m : Int) % 4 = 1 := by omega
                    have HR4 := Aside0.mk hr4
                    clear hr4
                    go_wp2
                    go_roundw
                    case rel => exact ⟨m + 1, by omega, by go_num, HO.out.next (by rw [HQ4.out, HY.out, HR4.out]; simp only [Nat.reduceMul, Nat.reduceSub, Int.reducePow] <;> omega)⟩
                    case measure => simp [intOf]; omega
                  · have hri : (m : Int) % 4 = 2 := by omega
                    have HR4 := Aside0.mk hr4
                    clear hr4
                    go_wp2
                    go_roundw
                    case rel => exact ⟨m + 1, by omega, by go_num, HO.out.next (by rw [HQ4.out, HY.out, HR4.out]; simp only [Nat.reduceMul, Nat.reduceSub, Int.reducePow] <;> omega)⟩
                    case measure => simp [intOf]; omega
                  · have hri : (m : Int) % 4 = 3 := by omega
                    have HR4 := Aside0.mk hr4
                    clear hr4
                    go_wp2
                    go_roundw
                    case rel => exact ⟨m + 1, by omega, by go_num, HO.out.next (by rw [HQ4.out, HY.out, HR4.out]; simp only [Nat.reduceMul, Nat.reduceSub, Int.reducePow] <;> omega)⟩
                    case measure => simp [intOf]; omega
                · have HM := Aside0.mk (show m = 32 by omega)
                  have hge : 32 ≤ m := by omega
                  obtain ⟨D, hD⟩ : ∃ D, (nums .u8 (outN s m)).toArray = D := ⟨_, rfl⟩
                  obtain ⟨Z, hZ⟩ : ∃ Z, Z32 = Z := ⟨_, rfl⟩
                  have h3 := hinv.2.2.2.1
                  have h2 := hinv.2.2.1
                  rw [hD] at h3
                  rw [hZ] at h2
                  have H3 := Aside0.mk h3
                  have H2 := Aside0.mk h2
                  have hds : D.size = 32 := by rw [← hD]; simp [nums, outN_len]
                  have hzs : Z.size = D.size := by rw [hds, ← hZ]; simp [Z32, nums]
                  have HIX := Aside0.mk (show (Try.prog.info? 23).map (·.size) = some D.size by rw [hds]; exact info_32)
                  have HZS := Aside0.mk hzs
                  have HONE := Aside0.mk (show D.all (·.oneCell') = true by rw [← hD]; exact nums_one _ _)
                  have HBL := Aside0.mk (And.intro hinv.2.1 hinv.2.2.2.2.2)
                  have HFI := Aside0.mk (show D = (nums .u8 (shaB t)).toArray by rw [← hD, HM.out, HFIN.out]; rfl)
                  clear hD hZ h3 h2 hds hzs hlt hm hinv
                  go_wp2_with (first
                    | ((with_reducible refine gate_dst (N := 72) rfl ?_); refine wpList_load_row rfl 23 (.tmp 8) rfl p8 rfl 23 D (0, 0) _ H3.out Try.underlying23 rfl HIX.out ?_)
                    | ((with_reducible refine gate_store (t := 23) (p := 2) (v := .tmp 72) rfl ?_); refine wpList_store_row rfl 23 (.tmp 2) (.tmp 72) rfl w.heap.size D rfl rfl 23 Z H2.out HIX.out HZS.out HONE.out ?_))
                  have HSR := setRow_heap wr w.heap.size Z D _ _ H2.out
                  refine bodyPost_ret (v := .agg D) (results_cell_row rfl _ _ w.heap.size 23 D (0, 0) _ rfl HSR Try.underlying23 rfl HIX.out) rfl ⟨by rw [HFI.out], below_setRow HBL.out.1 (Nat.le_refl _) D⟩
    · have hbq : ((qq : Int) == 56) = false := by simp; omega
      have hbn : ((qq : Int) != 56) = true := by simp; omega
      have HGK := Aside0.mk (show 0 < gk by omega)
      have HGZ := Aside0.mk hgk
      have HMB := Aside0.mk (show L.length ≤ 2000000 by have := HL.out; have := HN.out; omega)
      clear hinv hLe hlen hm hqq h56 hz hgk hc3 hr3
      go_wp2_with (first
        | ((with_reducible refine gate_dst (N := 21) rfl ?_); (try (refine gate_guard (by rfl) ?_; dsimp only)); refine lit_bytes (N := 21) ?hg ?hd [0] [.int .u8 (0)] rfl ?hr (by simp) ?_; (case hd => rfl); (case hg => rfl); (case hr => first | (go_simp; done) | (go_simp; rfl)); intro v w1 ho hb; have n1_ := Aside0.mk (Kd.R_below HO.out hb); have n2_ := Aside0.mk (below_step HB.out hb); have n3_ := Aside0.mk (blk_below HZ.out hb); clear HO HB HZ; have HO := n1_; have HB := n2_; have HZ := n3_; clear n1_ n2_ n3_ hb; obtain ⟨Ar, cr, rfl, hl_, hr_⟩ := Ob.reads ho; have HRr := Aside0.mk hr_; have HLr := Aside0.mk hl_; clear ho hl_ hr_)
        | ((with_reducible refine gate_builtin (b := .append) (xs := #[.tmp 20, .tmp 21]) rfl ?_); at_builtin; refine Kd.R_append_rows (Kd.int .u8) (w0 := w) w.heap.size rfl (.tmp 20) (.tmp 21) 25 5 (.int .u8 0) 1 rfl Try.underlying25 info_u8 rfl (by decide) (by omega) (.slice A3 m c3) L [0] _ _ _ (fun _ => True) (fun _ => False) rfl rfl HO.out HRr.out (fun _ _ h => h) (fun _ h => h.elim) (fun _ _ => trivial) HB.out HB.out.size (by have := HMB.out; simp; omega) ?_; intro v4 w5 ho hb hg hat; have n1_ := Aside0.mk (blk_grown HZ.out hg (Kd.R_ne HO.out HZ.out (by decide))); have n2_ := Aside0.mk ho; have n3_ := Aside0.mk hb; clear HZ HO HB; have HZ := n1_; have HO := n2_; have HB := n3_; clear n1_ n2_ n3_ ho hb hg hat))
      go_roundg (gk - 1)
      case measure => have := HGK.out; omega
      case rel =>
        refine ⟨by have := HGZ.out; omega, ?_⟩
        rw [show z - (gk - 1) = (z - gk) + 1 from by have := HGZ.out; have := HGK.out; omega, List.replicate_succ', ← List.append_assoc, HLE.out]
        exact ⟨HO.out, HB.out, HZ.out⟩
end Go.Proofs.Ytfpkgdenohcglaa.Sha
/- What an argument reads as, opened kind by kind: out of the form's reading a value of the kind, whose cells it has. -/
namespace Go.Proofs.Ytfpkgdenohcglaa.Open
open Go.Proofs.Ytfpkgdenohcglaa.Base Go.RowKit Go.Proofs.YtfpkgdenohcglaaW.PrintWords Go.Proofs.YtfpkgdenohcglaaW.PrintLast Go.Proofs.YtfpkgdenohcglaaW.PrintMore

/-- With so much fuel, what type t reads as is a value of kind d. -/
def OpensN (P : Program) (n : Nat) (t : TypeId) {α : Type} (d : Kd α) (ok : α → Prop) : Prop :=
  ∀ (H : Type) (enc : TypeId × Value → H) (w : World) (base : Nat) (held : Bool) (cs : List Value) (x : DataW H × List MemPlace), DataW.trod enc P w base (fun _ => true) held n t cs = some x → ∃ v, d.K w v cs ∧ ok v
def Opens (P : Program) (t : TypeId) {α : Type} (d : Kd α) (ok : α → Prop) : Prop := ∀ n, OpensN P n t d ok

theorem opens_int {P : Program} {t : TypeId} {k : IntKind} (ht : P.underlying t = some (.int k)) : Opens P t (Kd.int k) (fun v => (Lit.int k v).wf = true) := by
  intro n H enc w base held cs x h
  obtain ⟨v, rfl, hw, _⟩ : ∃ v, cs = [.int k v] ∧ (Lit.int k v).wf = true ∧ True := by
    cases n with
    | zero => simp [DataW.trod] at h
    | succ n =>
      unfold DataW.trod at h
      rw [ht] at h
      split at h <;> simp_all
  exact ⟨v, rfl, hw⟩
theorem opens_bool {P : Program} {t : TypeId} (ht : P.underlying t = some .bool) : Opens P t Kd.bool (fun _ => True) := by
  intro n H enc w base held cs x h
  obtain ⟨v, rfl⟩ : ∃ v, cs = [.bool v] := by
    cases n with
    | zero => simp [DataW.trod] at h
    | succ n =>
      unfold DataW.trod at h
      rw [ht] at h
      split at h <;> simp_all
  exact ⟨v, rfl, trivial⟩
theorem opens_string {P : Program} {t : TypeId} (ht : P.underlying t = some .string) : Opens P t Kd.string (fun s => s.size ≤ maxLen) := by
  intro n H enc w base held cs x h
  obtain ⟨v, rfl, hv⟩ : ∃ v, cs = [.string v] ∧ v.size ≤ maxLen := by
    cases n with
    | zero => simp [DataW.trod] at h
    | succ n =>
      unfold DataW.trod at h
      rw [ht] at h
      split at h <;> simp_all
  exact ⟨v, rfl, hv⟩
theorem choose_list {α : Type} {p : Nat → α → Prop} : ∀ n, (∀ i, i < n → ∃ v, p i v) → ∃ xs : List α, xs.length = n ∧ ∀ i v, xs[i]? = some v → p i v := by
  intro n
  induction n with
  | zero => intro _; exact ⟨[], rfl, fun i v h => by simp at h⟩
  | succ n ih =>
    intro h
    obtain ⟨xs, hl, hx⟩ := ih (fun i hi => h i (by omega))
    obtain ⟨v, hv⟩ := h n (by omega)
    refine ⟨xs ++ [v], by simp [hl], fun i u hu => ?_⟩
    rcases Nat.lt_or_ge i xs.length with hi | hi
    · rw [List.getElem?_append_left hi] at hu; exact hx i u hu
    · have hi' : i = n := by
        have := (List.getElem?_eq_some_iff.1 hu).1
        rw [List.length_append, List.length_singleton] at this
        omega
      subst hi'
      have : v = u := by rw [← hl] at hu; simpa using hu
      subst this
      exact hv
theorem opensN_slice {P : Program} {n : Nat} {t e : TypeId} {α : Type} {d : Kd α} {ok : α → Prop} (ht : P.underlying t = some (.slice e)) (hc : P.cellsOf e = d.sz) (hd : OpensN P n e d ok) : OpensN P (n + 1) t (Kd.slice e d) (fun xs => ∀ x ∈ xs, ok x) := by
  intro H enc w base held cs x h
  rcases DataW.trod_slice ht h with ⟨rfl, _⟩ | ⟨a, len, cap, elems, rest, m, hm, rfl, _, hb, hl, hmx, hel, hi, _⟩
  · exact ⟨[], ⟨none, 0, rfl, by simp, Kd.C_nil _ _⟩, fun x hx => by cases hx⟩
  · have hmn : m = n := by omega
    subst hmn
    obtain ⟨xs, hxl, hxs⟩ := choose_list (α := α) (p := fun i v => ok v ∧ ∃ c, c.length = d.sz ∧ d.K w v c ∧ ∀ j u, c[j]? = some u → w.cell? (a.add (i * d.sz + j)) = some u) len (fun i hil => by
      have h1 := hi i hil
      rw [List.getElem?_eq_getElem (by omega)] at h1
      obtain ⟨cs', h2, h3⟩ := Option.bind_eq_some_iff.1 h1
      obtain ⟨v, hv, hok⟩ := hd _ _ _ _ _ _ _ h3
      obtain ⟨_, h4, h5⟩ := World.cells?_some h2
      refine ⟨v, hok, cs', by rw [h4, hc], hv, fun j u hu => ?_⟩
      have hj : j < cs'.length := (List.getElem?_eq_some_iff.1 hu).1
      have h6 := h5 j (by omega)
      rw [hu, hc] at h6
      rw [← h6, Addr.add_add])
    refine ⟨xs, ⟨some a, cap, by rw [hxl], by omega, ?_⟩, fun x hx => ?_⟩
    · refine ⟨rfl, ?_, fun _ => ⟨a, rfl, fun j p hj => ?_⟩⟩
      · rw [hxl]; simp only [maxLen] at hmx; omega
      · exact (hxs j p hj).2
    · obtain ⟨i, hi, rfl⟩ := List.mem_iff_getElem.1 hx
      exact (hxs i _ (List.getElem?_eq_getElem hi)).1
theorem opens_slice {P : Program} {t e : TypeId} {α : Type} {d : Kd α} {ok : α → Prop} (ht : P.underlying t = some (.slice e)) (hc : P.cellsOf e = d.sz) (hd : Opens P e d ok) : Opens P t (Kd.slice e d) (fun xs => ∀ x ∈ xs, ok x) := by
  intro n
  cases n with
  | zero => intro H enc w base held cs x h; simp [DataW.trod] at h
  | succ n => exact opensN_slice ht hc (hd n)
/-- The fields of a struct from offset o on. -/
def OpensF (P : Program) (n : Nat) (fs : List Field) (o : Nat) {α : Type} (d : Kd α) (ok : α → Prop) : Prop :=
  ∀ (H : Type) (enc : TypeId × Value → H) (w : World) (base : Nat) (held : Bool) (cs : List Value) (xs : List (DataW H × List MemPlace)),
    cs.length = o + d.sz → fs.mapM (fun f => DataW.trod enc P w base (fun _ => true) held n f.type ((cs.drop f.offset).take (P.cellsOf f.type))) = some xs → ∃ v, d.K w v (cs.drop o) ∧ ok v
theorem opensF_one {P : Program} {n : Nat} {f : Field} {o : Nat} {α : Type} {d : Kd α} {ok : α → Prop} (ho : f.offset = o) (hc : P.cellsOf f.type = d.sz) (hd : OpensN P n f.type d ok) : OpensF P n [f] o d ok := by
  intro H enc w base held cs xs hl h
  have h1 := mapM_some_get h 0 f rfl
  cases hx : xs[0]? with
  | none => rw [List.getElem?_eq_none_iff] at hx; have := mapM_some_length h; simp at this; omega
  | some y =>
    rw [hx, ho, List.take_of_length_le (by rw [List.length_drop]; omega)] at h1
    exact hd _ _ _ _ _ _ _ h1
theorem opensF_cons {P : Program} {n : Nat} {f : Field} {fs : List Field} {o : Nat} {α β : Type} {d : Kd α} {d2 : Kd β} {ok : α → Prop} {ok2 : β → Prop} (ho : f.offset = o) (hc : P.cellsOf f.type = d.sz) (hd : OpensN P n f.type d ok) (hr : OpensF P n fs (o + d.sz) d2 ok2) : OpensF P n (f :: fs) o (Kd.pair d d2) (fun v => ok v.1 ∧ ok2 v.2) := by
  intro H enc w base held cs xs hl h
  rw [List.mapM_cons] at h
  obtain ⟨y, h1, h2⟩ := Option.bind_eq_some_iff.1 h
  obtain ⟨ys, h3, h4⟩ := Option.bind_eq_some_iff.1 h2
  have hsz : (Kd.pair d d2).sz = d.sz + d2.sz := rfl
  rw [ho, hc] at h1
  obtain ⟨v1, k1, o1⟩ := hd _ _ _ _ _ _ _ h1
  obtain ⟨v2, k2, o2⟩ := hr _ _ _ _ _ _ _ (by rw [hl, hsz]; omega) h3
  refine ⟨(v1, v2), ⟨(cs.drop o).take d.sz, cs.drop (o + d.sz), ?_, k1, k2⟩, o1, o2⟩
  rw [← List.drop_drop, List.take_append_drop]
theorem opensN_struct {P : Program} {n : Nat} {t : TypeId} {fs : Array Field} {α : Type} {d : Kd α} {ok : α → Prop} (ht : P.underlying t = some (.struct fs)) (hc : P.cellsOf t = d.sz) (hd : OpensF P n fs.toList 0 d ok) : OpensN P (n + 1) t d ok := by
  intro H enc w base held cs x h
  unfold DataW.trod at h
  rw [ht] at h
  have h' : (if cs.length = P.cellsOf t then (fs.toList.mapM fun f => DataW.trod enc P w base (fun _ => true) held n f.type ((cs.drop f.offset).take (P.cellsOf f.type))).map fun xs => (DataW.agg (xs.map (·.1)), xs.flatMap (·.2)) else none) = some x := by
    revert h
    split <;> simp_all
  split at h'
  · next hl =>
    obtain ⟨xs, h1, _⟩ := Option.map_eq_some_iff.1 h'
    have := hd _ _ _ _ _ _ _ (by rw [hl, hc]; omega) h1
    simpa using this
  · cases h'
theorem opens_struct {P : Program} {t : TypeId} {fs : Array Field} {α : Type} {d : Kd α} {ok : α → Prop} (ht : P.underlying t = some (.struct fs)) (hc : P.cellsOf t = d.sz) (hd : ∀ n, OpensF P n fs.toList 0 d ok) : Opens P t d ok := by
  intro n
  cases n with
  | zero => intro H enc w base held cs x h; simp [DataW.trod] at h
  | succ n => exact opensN_struct ht hc (hd n)
/-- An argument, opened. -/
theorem Opens.arg {P : Program} {t : TypeId} {α : Type} {d : Kd α} {ok : α → Prop} (h : Opens P t d ok) {H : Type} {enc : TypeId × Value → H} {w : World} {base : Nat} {held : Bool} {v : Value} {D : DataW H} {ps : List MemPlace} (ht : DataW.Trod enc P w base (fun _ => true) held t v D ps) : ∃ x, d.K w x v.cells.toList ∧ ok x := by
  obtain ⟨n, hn⟩ := ht
  exact h n _ _ _ _ _ _ _ hn
end Go.Proofs.Ytfpkgdenohcglaa.Open
/- commit: sum walked. -/
namespace Go.Proofs.Ytfpkgdenohcglaa.Com
set_option linter.unusedVariables false
set_option linter.unusedSimpArgs false
open Go.RowKit Go.Proofs.Ytfpkgdenohcglaa.Base Go.Proofs.Ytfpkgdenohcglaa.ShaPlain Go.Proofs.Ytfpkgdenohcglaa.Sha Go.Proofs.Ytfpkgdenohcglaa.Aid Go.Proofs.YtfpkgdenohcglaaW.PrintWords Go.Proofs.YtfpkgdenohcglaaW.PrintLast Go.Proofs.YtfpkgdenohcglaaW.PrintMore
theorem info_row : (Try.prog.info? 25).map (fun i => (i.zero, i.size, i.bytes)) = some (some (.slice none 0 0), 1, 24) := by kernel_rfl
/-- What lies in the cells of rows, and what it reads as. -/
def IsRow (w : World) (l : List (List Int)) (vs : List (List Value)) : Prop := vs.length = l.length ∧ ∀ (j : Nat) (b : List Int), l[j]? = some b → ∃ (A : Option Addr) (c : Nat), vs[j]? = some [Value.slice A b.length c] ∧ b.length ≤ c ∧ Rb w A b
theorem IsRow.below {w w1 : World} {l : List (List Int)} {vs : List (List Value)} (h : IsRow w l vs) (hb : Below w.heap.size w w1) : IsRow w1 l vs :=
  ⟨h.1, fun j b hj => by obtain ⟨A, c, h1, h2, h3⟩ := h.2 j b hj; exact ⟨A, c, h1, h2, Kd.C_below h3 hb⟩⟩
theorem raw_of_rows {w : World} {A : Option Addr} {l : List (List Int)} (h : Rr w A l) : ∃ vs, IsRow w l vs ∧ Kd.C (Kd.raw 1) w A l.length vs := by
  by_cases h0 : l.length = 0
  · refine ⟨[], ⟨by simp [h0], fun j b hj => ?_⟩, by simp [h0], by omega, fun h => by omega⟩
    have := (List.getElem?_eq_some_iff.1 hj).1
    omega
  · obtain ⟨ad, hA, hc⟩ := h.2.2 (by omega)
    obtain ⟨vs, hl, hv⟩ := Open.choose_list (p := fun (j : Nat) (v : Value) => ∃ (b : List Int) (A1 : Option Addr) (c1 : Nat), l[j]? = some b ∧ v = .slice A1 b.length c1 ∧ b.length ≤ c1 ∧ Rb w A1 b ∧ w.cell? (ad.add j) = some v) l.length (fun j hj => by
      obtain ⟨ad', A1, c1, e, h1, h2, h3⟩ := rows_at h j hj
      rw [hA] at e
      injection e with e
      subst e
      exact ⟨_, l[j], A1, c1, List.getElem?_eq_getElem hj, rfl, h2, h3, h1⟩)
    refine ⟨vs.map fun v => [v], ⟨by simp [hl], fun j b hj => ?_⟩, by simp [hl], h.2.1, fun _ => ⟨ad, hA, fun j p hj => ?_⟩⟩
    · have hjl := (List.getElem?_eq_some_iff.1 hj).1
      obtain ⟨b', A1, c1, e, rfl', h2, h3, _⟩ := hv j (vs[j]'(by omega)) (List.getElem?_eq_getElem _)
      rw [hj] at e
      injection e with e
      subst e
      exact ⟨A1, c1, by rw [List.getElem?_map, List.getElem?_eq_getElem (by omega), rfl']; rfl, h2, h3⟩
    · rw [List.getElem?_map] at hj
      obtain ⟨v, hv', rfl⟩ := Option.map_eq_some_iff.1 hj
      obtain ⟨b', A1, c1, e, rfl, h2, h3, h4⟩ := hv j v hv'
      refine ⟨[.slice A1 b'.length c1], rfl, ⟨rfl, rfl, by simp; rfl⟩, fun i u hu => ?_⟩
      have hi0 : i = 0 := by
        have := (List.getElem?_eq_some_iff.1 hu).1
        simp at this
        exact this
      subst hi0
      rw [show j * (Kd.raw 1).sz + 0 = j from by show j * 1 + 0 = j; omega, h4]
      exact hu
theorem rows_of_raw {w : World} {A : Option Addr} {l : List (List Int)} {vs : List (List Value)} (h : Kd.C (Kd.raw 1) w A vs.length vs) (hi : IsRow w l vs) : Rr w A l := by
  refine ⟨rfl, by rw [← hi.1]; exact h.2.1, fun h0 => ?_⟩
  obtain ⟨ad, hA, hc⟩ := h.2.2 (by rw [hi.1]; exact h0)
  refine ⟨ad, hA, fun j b hj => ?_⟩
  obtain ⟨A1, c1, h1, h2, h3⟩ := hi.2 j b hj
  obtain ⟨cs, _, ⟨e, _, _⟩, h4⟩ := hc j _ h1
  subst e
  exact ⟨_, rfl, ⟨A1, c1, rfl, h2, h3⟩, h4⟩
theorem IsRow.cons {w : World} {l : List (List Int)} {vs : List (List Value)} {b : List Int} {A : Option Addr} {c : Nat} (h : IsRow w l vs) (hr : Rb w A b) (hc : b.length ≤ c) : IsRow w (b :: l) ([.slice A b.length c] :: vs) := by
  refine ⟨by simp [h.1], fun j x hj => ?_⟩
  cases j with
  | zero =>
    injection hj with hj
    subst hj
    exact ⟨A, c, rfl, hc, hr⟩
  | succ j => exact h.2 j x hj
theorem one_raw {w : World} {base : Nat} {ok : Nat → Prop} (v : Value) (h : v.oneCell' = true) : Reps ((Kd.raw 1).M w base ok) (Kd.raw 1).sz [[v]] [v] :=
  ⟨rfl, fun j p hj => by
    cases j with
    | zero =>
      injection hj with hj
      subst hj
      exact ⟨rfl, rfl, fun u hu => by rw [List.mem_singleton.1 hu]; exact h⟩
    | succ j => simp at hj⟩
set_option maxHeartbeats 4000000 in
set_option maxRecDepth 100000 in
theorem csum_c (tag : Int) (ht : 0 ≤ tag ∧ tag ≤ 255) (A : Option Addr) (c : Nat) (l : List (List Int)) (w : World) (hr : Rr w A l) (hc : l.length ≤ c) (hu : ∀ p ∈ l, ∀ x ∈ p, 0 ≤ x ∧ x ≤ 255) (hn : l.flatten.length ≤ 1000000) (hl : l.length ≤ 1000) :
    Calls Try.prog 90 #[.int .u8 tag, .slice A l.length c] w fun e w' => e = .returned (sumV (shaB (tag :: l.flatten))) ∧ Below w.heap.size w w' := by
  obtain ⟨vs, hi, hraw⟩ := raw_of_rows hr
  have HT := Aside0.mk ht
  have HI := Aside0.mk hi
  have HRAW := Aside0.mk hraw
  have HU := Aside0.mk hu
  have HN := Aside0.mk hn
  have HL := Aside0.mk hl
  have HZ := Aside0.mk (show (w.alloc (.cells Z32 23)).heap[w.heap.size]? = some (.cells Z32 23 (0, 0)) from blk_new _ _)
  have HB := Aside0.mk (below_alloc (Below.refl w.heap.size w) (.cells Z32 23))
  clear hr hu hn hl hi hraw ht
  go_enter Try.func90, Try.ntmps90
  go_wp2_with (first
    | ((with_reducible refine gate_dst (N := 7) rfl ?_); (try (refine gate_guard (by rfl) ?_; dsimp only)); refine lit_bytes (N := 7) ?hg ?hd [tag] [.int .u8 (tag)] rfl ?hr (by simp) ?_; (case hd => rfl); (case hg => rfl); (case hr => first | (go_simp; done) | (go_simp; rfl)); intro v w1 ho hb; have n2_ := Aside0.mk (below_step HB.out hb); have n3_ := Aside0.mk (blk_below HZ.out hb); clear HB HZ; have HB := n2_; have HZ := n3_; clear n2_ n3_ hb; obtain ⟨Aq, cq, rfl, hl_, hr_⟩ := Ob.reads ho; have HRq := Aside0.mk hr_; have HLq := Aside0.mk hl_; clear ho hl_ hr_)
    | ((with_reducible refine gate_dst (N := 8) rfl ?_); refine Kd.R_lit (Kd.raw 1) (w0 := w1) w1.heap.size 25 ?hg8 (N := 8) ?hd8 (xs := [[.slice Aq 1 cq]]) (inner := [.slice Aq 1 cq]) (ok := fun _ => True) (okp := fun _ => True) ?hr8 (one_raw _ rfl) (fun _ hk => hk) trivial (Below.refl _ _) (Nat.le_refl _) (by simp) ?_; (case hd8 => rfl); (case hg8 => rfl); (case hr8 => first | (go_simp; done) | (go_simp; rfl)); intro v0 w3 ho4 hb hg_ hnew_; have HO := Aside0.mk ho4; have HB3 := Aside0.mk hb; clear hb ho4 hg_ hnew_)
    | ((with_reducible refine gate_builtin (b := .append) (xs := #[.tmp 8, .tmp 9]) rfl ?_); at_builtin; refine Kd.R_append_rows (Kd.raw 1) (w0 := w1) w1.heap.size rfl (.tmp 8) (.tmp 9) 44 25 (.slice none 0 0) 24 rfl Try.underlying44 info_row rfl (by decide) (by omega) v0 [[.slice Aq 1 cq]] vs _ _ _ (fun _ => True) (fun _ => False) rfl rfl HO.out (Kd.C_below HRAW.out (below_step HB.out HB3.out)) (fun _ _ h => h) (fun _ h => h.elim) (fun _ _ => trivial) HB3.out HB3.out.size (by have := HL.out; simp; omega) ?_; intro v1 w5 ho hb hg hat; have HO5 := Aside0.mk ho; have HB5 := Aside0.mk hb; clear ho hb hg hat))
  obtain ⟨A5, c5, rfl, hc5, hr5⟩ := Kd.R_reads HO5.out
  have HZ5 := Aside0.mk (blk_below HZ.out HB5.out)
  have HBW := Aside0.mk (below_step HB.out HB5.out)
  have HRR := Aside0.mk (rows_of_raw hr5 ((HI.out.below HBW.out).cons (Kd.C_below HRq.out HB5.out) (b := [tag]) HLq.out))
  obtain ⟨nn, hnn⟩ : ∃ nn, ([[Value.slice Aq 1 cq]] ++ vs).length = nn := ⟨_, rfl⟩
  have hne : nn = ([tag] :: l).length := by rw [← hnn]; simp [HI.out.1]
  have HC5 := Aside0.mk hc5
  rw [hnn] at HC5 ⊢
  have HCALL := Aside0.mk (show Calls Try.prog 102 #[.slice A5 nn c5] w5 fun e w' => e = .returned (sumV (shaB (tag :: l.flatten))) ∧ Below w5.heap.size w5 w' by
    have h := of_c A5 c5 ([tag] :: l) w5 HRR.out (by rw [← hne]; exact HC5.out) (by
      intro p hp x hx
      rcases List.mem_cons.1 hp with rfl | hp
      · rw [List.mem_singleton.1 hx]; exact HT.out
      · exact HU.out p hp x hx) (by have := HN.out; simp only [List.flatten_cons, List.length_append, List.length_cons, List.length_nil]; omega) (by have := HL.out; simp only [List.length_cons]; omega)
    rw [hne]
    exact h)
  obtain ⟨D, hD⟩ : ∃ D, (nums .u8 (shaB (tag :: l.flatten))).toArray = D := ⟨_, rfl⟩
  have HD := Aside0.mk hD
  have hds : D.size = 32 := by rw [← hD]; simp [nums, shaB_len]
  have HIF := Aside0.mk (show (Try.prog.info? 23).map (·.size) = some D.size by rw [hds]; exact info_32)
  have HSZ := Aside0.mk (show Z32.size = D.size by rw [hds]; simp [Z32, nums])
  have HONE := Aside0.mk (show D.all (·.oneCell') = true by rw [← hD]; exact nums_one _ _)
  clear hc5 hr5 hnn hne hD hds HO HO5 HRR
  go_wp2_with (fail)
  refine HCALL.out.mono ?_
  rintro e w6 ⟨rfl, hb6⟩
  rw [show sumV (shaB (tag :: l.flatten)) = .agg D by rw [← HD.out]]
  have HZ6 := Aside0.mk (blk_below HZ5.out hb6)
  have HB6 := Aside0.mk (below_step HBW.out hb6)
  clear hb6
  go_wp2_with ((with_reducible refine gate_store (t := 23) (p := 4) (v := .tmp 12) rfl ?_); refine wpList_store_row rfl 23 (.tmp 4) (.tmp 12) rfl w.heap.size D rfl rfl 23 Z32 HZ6.out HIF.out HSZ.out HONE.out ?_)
  have HSR := setRow_heap w6 w.heap.size Z32 D _ _ HZ6.out
  refine bodyPost_ret (v := .agg D) (results_cell_row rfl _ _ w.heap.size 23 D (0, 0) _ rfl HSR Try.underlying23 rfl HIF.out) rfl ⟨by rw [← HD.out], below_setRow HB6.out (Nat.le_refl _) D⟩
end Go.Proofs.Ytfpkgdenohcglaa.Com
/- What a reader of bytes answers, in plain words: its state is the bytes that are left, or that it failed. -/
namespace Go.Proofs.Ytfpkgdenohcglaa.TlvPlain
open Go.Proofs.Ytfpkgdenohcglaa.Base Go.RowKit Go.Proofs.YtfpkgdenohcglaaW.PrintWords

def U8 (b : List Int) : Prop := ∀ x ∈ b, 0 ≤ x ∧ x ≤ 255
theorem U8.take {b : List Int} (h : U8 b) (n : Nat) : U8 (b.take n) := fun x hx => h x (List.mem_of_mem_take hx)
theorem U8.drop {b : List Int} (h : U8 b) (n : Nat) : U8 (b.drop n) := fun x hx => h x (List.mem_of_mem_drop hx)
theorem U8.nil : U8 [] := fun _ h => by cases h
theorem U8.append {a b : List Int} (h : U8 a) (k : U8 b) : U8 (a ++ b) := fun x hx => (List.mem_append.1 hx).elim (h x) (k x)
theorem U8.cons {x : Int} {b : List Int} (h : 0 ≤ x ∧ x ≤ 255) (k : U8 b) : U8 (x :: b) := fun y hy => (List.mem_cons.1 hy).elim (fun e => e ▸ h) (k y)
theorem U8.head {x : Int} {b : List Int} (h : U8 (x :: b)) : 0 ≤ x ∧ x ≤ 255 := h x (List.mem_cons_self ..)
theorem U8.tail {x : Int} {b : List Int} (h : U8 (x :: b)) : U8 b := fun y hy => h y (List.mem_cons_of_mem _ hy)

def takeO (st : Option (List Int)) (n : Int) : List Int × Option (List Int) :=
  match st with
  | some bs => if 0 ≤ n ∧ n ≤ bs.length then (bs.take n.toNat, some (bs.drop n.toNat)) else ([], none)
  | none => ([], none)
/-- The number of bytes, the highest first. -/
def valueB (l : List Int) : Int := l.foldl (fun n c => n * 256 + c) 0
def numO (st : Option (List Int)) : Int × Option (List Int) :=
  match st with
  | some (x :: r) =>
    if x > 8 then (0, none) else
    if (r.length : Int) < x then (0, none) else
    if 0 < x ∧ r.getD 0 0 = 0 then (0, none) else (valueB (r.take x.toNat), some (r.drop x.toNat))
  | _ => (0, none)
def countO (st : Option (List Int)) (most : Int) : Int × Option (List Int) :=
  if most < 0 ∨ (numO st).1 > most then (0, none) else numO st
def textO (st : Option (List Int)) (most : Int) : List Int × Option (List Int) := takeO (countO st most).2 (countO st most).1
def leftO (st : Option (List Int)) : Int := match st with | some bs => bs.length | none => 0

theorem valueB_snoc (l : List Int) (c : Int) : valueB (l ++ [c]) = valueB l * 256 + c := by simp [valueB]
theorem valueB_range {l : List Int} (h : U8 l) : 0 ≤ valueB l ∧ valueB l < 256 ^ l.length := by
  have H : ∀ n (l : List Int), l.length = n → U8 l → 0 ≤ valueB l ∧ valueB l < 256 ^ l.length := by
    intro n
    induction n with
    | zero =>
      intro l hl _
      have : l = [] := List.length_eq_zero_iff.1 hl
      subst this
      simp [valueB]
    | succ n ih =>
      intro l hl hu
      have hne : l ≠ [] := by intro e; rw [e] at hl; cases hl
      rw [← List.dropLast_concat_getLast hne, valueB_snoc]
      have h1 := ih l.dropLast (by simp [hl]) (fun x hx => hu x ((List.dropLast_sublist l).subset hx))
      have h2 := hu (l.getLast hne) (List.getLast_mem hne)
      rw [List.length_append, List.length_singleton, Int.pow_succ]
      omega
  exact H _ l rfl h
theorem valueB_u64 {l : List Int} (h : U8 l) (hl : l.length ≤ 8) : 0 ≤ valueB l ∧ valueB l ≤ 18446744073709551615 := by
  have := valueB_range h
  have key : ∀ n : Nat, n ≤ 8 → (256 : Int) ^ n ≤ 18446744073709551616 := by
    intro n hn
    have : n = 0 ∨ n = 1 ∨ n = 2 ∨ n = 3 ∨ n = 4 ∨ n = 5 ∨ n = 6 ∨ n = 7 ∨ n = 8 := by omega
    rcases this with rfl | rfl | rfl | rfl | rfl | rfl | rfl | rfl | rfl <;> decide +kernel
  have := key _ hl
  omega
/-- One byte more at the end: in words of 64 bits. -/
theorem or_byte (n c : Int) (hn0 : 0 ≤ n) (hn : n * 256 + 255 ≤ 18446744073709551615) (hc0 : 0 ≤ c) (hc : c ≤ 255) : Go.bits .or .u64 (n * 256) c = n * 256 + c := by
  obtain ⟨a, rfl⟩ := Int.eq_ofNat_of_zero_le hn0
  obtain ⟨b, rfl⟩ := Int.eq_ofNat_of_zero_le hc0
  have e1 : BitVec.ofInt IntKind.u64.bits ((a : Int) * 256) = BitVec.ofNat 64 (a * 256) := by
    rw [show ((a : Int) * 256) = ((a * 256 : Nat) : Int) from by omega]; rfl
  have e2 : BitVec.ofInt IntKind.u64.bits (b : Int) = BitVec.ofNat 64 b := rfl
  have e3 : (BitVec.ofNat 64 (a * 256) ||| BitVec.ofNat 64 b).toNat = a * 256 + b := by
    rw [BitVec.toNat_or, BitVec.toNat_ofNat, BitVec.toNat_ofNat, Nat.mod_eq_of_lt (by omega), Nat.mod_eq_of_lt (by omega)]
    have := Nat.shiftLeft_add_eq_or_of_lt (i := 8) (b := b) (show b < 2 ^ 8 by omega) a
    rw [Nat.shiftLeft_eq] at this
    exact this.symm
  unfold Go.bits
  simp only [e1, e2]
  show IntKind.u64.wrap (((BitVec.ofNat 64 (a * 256) ||| BitVec.ofNat 64 b : BitVec 64).toNat : Nat) : Int) = _
  rw [e3]
  exact IntWalk.u64_in _ (by omega)
theorem numO_range {st : Option (List Int)} (hu : ∀ bs, st = some bs → U8 bs) : 0 ≤ (numO st).1 ∧ (numO st).1 ≤ 18446744073709551615 := by
  unfold numO
  split
  · next x r =>
    split
    · simp
    · split
      · simp
      · split
        · simp
        · exact valueB_u64 ((hu _ rfl).tail.take _) (by rw [List.length_take]; omega)
  · simp
end Go.Proofs.Ytfpkgdenohcglaa.TlvPlain
-- printed for this claim by a program (pall.sh)
-- mended by fixpz.py
namespace Go.Proofs.Ytfpkgdenohcglaa.PZ
open Go.RowKit Go.Proofs.YtfpkgdenohcglaaW.PrintWords Go.Proofs.YtfpkgdenohcglaaW.PrintLast Go.Proofs.YtfpkgdenohcglaaW.PrintMore
attribute [local go_sem] max2_int min2_int max_two min_two max_three min_three max_four min_four   -- for this text's walks alone
set_option linter.unusedVariables false
set_option linter.unusedSimpArgs false



def errW : Option Int → Value
 | none => .nilIface
 | some c => .iface 0 (.int .i64 c)
theorem errW_none : errW none = .nilIface := rfl
theorem errW_some (c : Int) : errW (some c) = .iface 0 (.int .i64 c) := rfl

theorem info5 : (Try.prog.info? 5).map (fun i => (i.zero, i.size, i.bytes)) = some (some (.int .u8 0), 1, 1) := by kernel_rfl
end Go.Proofs.Ytfpkgdenohcglaa.PZ
-- printed for this claim by a program (pall.sh)
-- mended by fixpz.py
namespace Go.Proofs.Ytfpkgdenohcglaa.PZ
open Go.RowKit Go.Proofs.YtfpkgdenohcglaaW.PrintWords Go.Proofs.YtfpkgdenohcglaaW.PrintLast Go.Proofs.YtfpkgdenohcglaaW.PrintMore
attribute [local go_sem] max2_int min2_int max_two min_two max_three min_three max_four min_four   -- for this text's walks alone
set_option linter.unusedVariables false
set_option linter.unusedSimpArgs false

/-! ### tlv_Num: function 65 -/
mutual
def tlv_Num.l0 : Nat → Int → Int → Int → Option (List Int)
 | 0, _, _, _ => none
 | k + 1, x0, x3, x4 => if x4 > 0 then (tlv_Num.l0 k x0 (wrap64 (x3 + 1)) (x4 / 256)) else (if 0 ≤ (wrap64 (1 + x3)) then (if (wrap64 (1 + x3) : Int).toNat ≤ 281474976710656 then ((some (List.replicate (wrap64 (1 + x3) : Int).toNat 0 : List Int)).bind fun y101 => (if 0 < (y101.length : Int) then (tlv_Num.l1 k x0 (y101.set (0 : Int).toNat ((x3) % 256)) x3) else (none))) else (none)) else (none))
def tlv_Num.l1 : Nat → Int → List Int → Int → Option (List Int)
 | 0, _, _, _ => none
 | k + 1, x0, x5, x6 => if x6 > 0 then (if 0 ≤ x6 then (if x6 < (x5.length : Int) then (tlv_Num.l1 k (x0 / 256) (x5.set (x6 : Int).toNat ((x0) % 256)) (wrap64 (x6 - 1))) else (none)) else (none)) else (some x5)
end
def tlv_Num.f (k : Nat) (a0 : Int) : Option (List Int) := tlv_Num.l0 k a0 0 a0
set_option maxHeartbeats 8000000 in
set_option maxRecDepth 100000 in
theorem tlv_Num.calls (k : Nat) (a0 : Int) (r : List Int) (w : World) (h : tlv_Num.f k a0 = some r) :
  Calls Try.prog 65 #[.int .u64 a0] w fun e w' => ∃ v0_ : Value, e = .returned (v0_) ∧ Kd.R (Kd.int .u8) 5 w' w.heap.size (fun _ => True) v0_ r ∧ Below w.heap.size w w' := by
 have HB := Aside0.mk (Below.refl w.heap.size w)
 have H : (tlv_Num.l0 k a0 0 a0) = some r := h
 clear h
 have H' := Aside0.mk H
 clear H
 go_enter Try.func65, Try.ntmps65
 go_wp2
 go_loopg [3, 4] k (fun kq v3 v4 w' => ∃ (x3_1 : Int) (x4_1 : Int), v3 = .int .i64 x3_1 ∧ v4 = .int .u64 x4_1 ∧ Aside0 (tlv_Num.l0 kq a0 x3_1 x4_1 = some r) ∧ Aside0 (kq ≤ k) ∧ Aside0 (Below w.heap.size w w'))
 case atStart => exact ⟨(0), (a0), (by first | rfl | (simp; done) | (simp [*]; done)), (by first | rfl | (simp; done) | (simp [*]; done)), H', ⟨Nat.le_refl _⟩, ⟨by repeat (first | (with_reducible first | exact HB.out | apply below_alloc | apply pw_below_drewN | apply below_drew1) | exact HB.out)⟩⟩
 case round =>
  clear H'
  obtain ⟨x3_1, x4_1, rfl, rfl, HA, HK1, HB⟩ := hrel
  cases gk with
  | zero => exact absurd HA.out (by simp [tlv_Num.l0])
  | succ k1 =>
   have H := HA.out
   clear HA
   simp only [tlv_Num.l0] at H
   by_cases c2 : x4_1 > 0
   ·rw [if_pos c2] at H
    have c2b0 : decide (0 < x4_1) = true := decide_eq_true c2
    clear c2
    have H' := Aside0.mk H
    clear H
    go_wp2
    go_roundg k1
    case measure => have := HK1.out; omega
    case rel => exact ⟨(wrap64 (x3_1 + 1)), (x4_1 / 256), (by first | rfl | (simp; done) | (simp [*]; done)), (by first | rfl | (simp; done) | (simp [*]; done)), H', ⟨by have := HK1.out; omega⟩, ⟨by repeat (first | (with_reducible first | exact HB.out | apply below_alloc | apply pw_below_drewN | apply below_drew1) | exact HB.out)⟩⟩
   ·rw [if_neg c2] at H
    have c2b0 : decide (0 < x4_1) = false := decide_eq_false c2
    clear c2
    obtain ⟨ji3, hji3⟩ : ∃ j_ : Int, (wrap64 (1 + x3_1)) = j_ := ⟨_, rfl⟩
    replace H : (if 0 ≤ (ji3) then (if (ji3 : Int).toNat ≤ 281474976710656 then ((some (List.replicate (ji3 : Int).toNat 0 : List Int)).bind fun y101 => (if 0 < (y101.length : Int) then (tlv_Num.l1 k1 a0 (y101.set (0 : Int).toNat ((x3_1) % 256)) x3_1) else (none))) else (none)) else (none)) = some r := by first | (rw [hji3] at H; exact H) | (simp only [hji3] at H ⊢; exact H)
    have hji3w : (IntKind.i64.wrap (1 + x3_1)) = ji3 := (i64_w _).trans hji3
    by_cases c4 : 0 ≤ (ji3)
    ·rw [if_pos c4] at H
     have c4b0 := eq_true c4
     have c4b1 : decide (0 ≤ (ji3)) = true := decide_eq_true c4
     clear c4
     by_cases c5 : (ji3 : Int).toNat ≤ 281474976710656
     ·rw [if_pos c5] at H
      have c5b0 := eq_true c5
      have c5b1 : decide ((ji3 : Int).toNat ≤ 281474976710656) = true := decide_eq_true c5
      clear c5
      obtain ⟨y101, hy101⟩ : ∃ y_ : List Int, y_ = (List.replicate (ji3 : Int).toNat 0) := ⟨_, rfl⟩
      replace H : (if 0 < (y101.length : Int) then (tlv_Num.l1 k1 a0 (y101.set (0 : Int).toNat ((x3_1) % 256)) x3_1) else (none)) = some r := by first | (rw [hy101]; with_reducible exact H) | (have H2_ := (Option.bind_some _ _).symm.trans H; rw [hy101]; with_reducible exact H2_) | (have H2_ := (Option.bind_some _ _).symm.trans H; with_reducible exact H2_) | with_reducible exact H | (rw [hy101]; exact H) | exact H
      have Ny101 := Aside0.mk hy101
      clear hy101
      by_cases c6 : 0 < (y101.length : Int)
      ·rw [if_pos c6] at H
       have c6b0 : decide (0 < (y101.length : Int)) = true := decide_eq_true c6
       have c6b1 : decide (0 < y101.length) = true := decide_eq_true (by omega)
       clear c6
       obtain ⟨y104, hy104⟩ : ∃ y_ : List Int, y_ = (y101.set (0 : Int).toNat ((x3_1) % 256)) := ⟨_, rfl⟩
       replace H : (tlv_Num.l1 k1 a0 y104 x3_1) = some r := by first | (rw [hy104]; with_reducible exact H) | (have H2_ := (Option.bind_some _ _).symm.trans H; rw [hy104]; with_reducible exact H2_) | (have H2_ := (Option.bind_some _ _).symm.trans H; with_reducible exact H2_) | with_reducible exact H | (rw [hy104]; exact H) | exact H
       have Ny104 := Aside0.mk hy104
       clear hy104
       have H' := Aside0.mk H
       clear H
       go_wp2_with (first | ((with_reducible refine gate_dst (N := 16) rfl ?_); refine Kd.R_make (Kd.int .u8) _ 5 rfl (N := 16) rfl 25 _ _ rfl ji3 rfl rfl Try.underlying25 (.int .u8 0) 1 info5 rfl (by decide) (by omega) 0 (ok := fun _ => True) (okp := fun _ => True) rfl (fun _ hk => hk) trivial (of_decide_eq_true (by first | (with_reducible assumption) | assumption)) (Nat.le_trans (Nat.mul_le_mul_right _ (of_decide_eq_true (by first | (with_reducible assumption) | assumption) : ji3.toNat ≤ 281474976710656)) (by omega)) (Below.refl _ _) (Nat.le_refl _) ?_; intro v102 w8 ho9 hb hg_ hnew_; clear hg_ hnew_; (first | rw [← Ny101.out] at ho9 | (simp only [Int.reduceToNat] at ho9; rw [← Ny101.out] at ho9)); have n0_ := Aside0.mk (Kd.R_lower ho9 (below_size (by repeat (first | (with_reducible first | exact HB.out | apply below_alloc | apply pw_below_drewN | apply below_drew1) | exact HB.out)))); have n1_ := Aside0.mk (below_step (by repeat (first | (with_reducible first | exact HB.out | apply below_alloc | apply pw_below_drewN | apply below_drew1) | exact HB.out)) hb); clear HB; have HO103 := n0_; have HB := n1_; clear n0_ n1_; clear hb ho9; have p7 : 0 ≤ (0 : Int) := (by omega); have q7 : (0 : Int) < ((y101.length : Int) : Int) := of_decide_eq_true (by first | (with_reducible assumption) | assumption); have qi7 : (0 < y101.length) = True := eq_true (by omega); obtain ⟨go7, co7, eo7, gb7, gl7, cl7, HG7⟩ := Kd.R_form HO103.out (by omega); (first | cases eo7 | (injection eo7 with ea_ en_ ec_; (first | subst ea_ | (injection ea_ with ea_; subst ea_)); subst ec_; clear en_)); have GB7 := Aside0.mk gb7; have GG7 := Aside0.mk HG7; clear gb7 gl7 HG7; obtain ⟨hx7_0, hf7_0⟩ := Kd.R_celln 0 HO103.out (0 : Int) p7 q7; (try rw [show ((0 : Int)).toNat = 0 from rfl] at hx7_0); (try simp only [Nat.reduceMul, Nat.zero_mul, Nat.zero_add, Nat.reduceAdd] at hx7_0); (try rw [show ((0 : Int)).toNat = 0 from rfl] at hf7_0); (try simp only [Nat.reduceMul, Nat.zero_mul, Nat.zero_add, Nat.reduceAdd] at hf7_0); replace p7 := eq_true p7; replace q7 := eq_true q7; obtain ⟨hy10_, hz10_⟩ := Kd.R_celln 0 HO103.out (0 : Int) (by omega) (of_decide_eq_true (by first | (with_reducible assumption) | assumption)); (try simp only [Int.reduceToNat, Int.toNat_zero, Int.toNat_ofNat, Nat.reduceMul, Nat.zero_mul, Nat.zero_add] at hy10_ hz10_); (try rw [show ((0 : Int)).toNat = 0 from rfl] at hy10_); (try rw [show ((0 : Int)).toNat = 0 from rfl] at hz10_); have HP10 := Kd.R_putg HO103.out (0 : Int) ((x3_1) % 256)) | ((with_reducible refine gate_store (t := 5) (p := 20) rfl ?_); refine store_event (t := 5) (p := 20) (v := ?vo_w11) (w1 := (w8.setCell ⟨go7, (0 : Int).toNat, none⟩ (.int .u8 ((x3_1) % 256)))) ?hg ?ho ?hn ?hr ?_; (case ho => rfl); (case hg => rfl); (case hn => rfl); (case hr => first | (go_simp; done) | (go_simp; rfl)); intro w11 hw; have hg : w8.grownBy w11 (some go7) := (by rw [hw]; exact HP10.2); have hp_ : Kd.R (Kd.int .u8) 5 w11 w.heap.size (fun _ => True) (.slice (some ⟨go7, 0, none⟩) y101.length co7) y104 := (by rw [hw, Ny104.out]; exact HP10.1); clear HP10; have n0_ := Aside0.mk (hp_); have n1_ := Aside0.mk ((by rw [hw]; exact below_set (HB.out) GB7.out : Below w.heap.size w w11)); clear HO103; clear HB; have HO103 := n0_; have HB := n1_; clear n0_ n1_; clear hg hw hp_))
       go_loopg [0, 6] k1 (fun kq v0 v6 w' => ∃ (x0_2 : Int) (x5_2 : List Int) (x6_2 : Int), v0 = .int .u64 x0_2 ∧ v6 = .int .i64 x6_2 ∧ Aside0 (tlv_Num.l1 kq x0_2 x5_2 x6_2 = some r) ∧ Aside0 (kq ≤ k1) ∧ Aside0 (Kd.R (Kd.int .u8) 5 w' w.heap.size (fun _ => True) (.slice (some ⟨go7, 0, none⟩) y101.length co7) x5_2) ∧ Aside0 (Below w.heap.size w w'))
       case atStart => exact ⟨(a0), (y104), (x3_1), (by first | rfl | (simp; done) | (simp [*]; done)), (by first | rfl | (simp; done) | (simp [*]; done)), H', ⟨Nat.le_refl _⟩, ⟨by (with_reducible repeat (first | apply Kd.R_alloc | apply Kd.R_drewN | apply Kd.R_drew)); exact HO103.out⟩, ⟨by repeat (first | (with_reducible first | exact HB.out | apply below_alloc | apply pw_below_drewN | apply below_drew1) | exact HB.out)⟩⟩
       case round =>
        clear H'
        (try clear c2);(try clear c2b0);(try clear p2);(try clear c4);(try clear c4b0);(try clear c4b1);(try clear c5);(try clear c5b0);(try clear c5b1);(try clear c6);(try clear c6b0);(try clear c6b1);(try clear p6);(try clear p7);(try clear q7);(try clear hx7);(try clear qi7);(try clear hf7);(try clear hx7_0);(try clear p7);(try clear q7)
        obtain ⟨x0_2, x5_2, x6_2, rfl, rfl, HA, HK2, HO_5, HB⟩ := hrel
        have hl5_2 := (Kd.R_reads' HO_5.out).1
        rw [hl5_2] at HO_5
        (try simp only [hl5_2])
        cases gk with
        | zero => exact absurd HA.out (by simp [tlv_Num.l1])
        | succ k2 =>
         have H := HA.out
         clear HA
         simp only [tlv_Num.l1] at H
         by_cases c12 : x6_2 > 0
         ·rw [if_pos c12] at H
          have c12b0 : decide (0 < x6_2) = true := decide_eq_true c12
          clear c12
          by_cases c13 : 0 ≤ x6_2
          ·rw [if_pos c13] at H
           have c13b0 : decide (0 ≤ x6_2) = true := decide_eq_true c13
           clear c13
           by_cases c14 : x6_2 < (x5_2.length : Int)
           ·rw [if_pos c14] at H
            have c14b0 : decide (x6_2 < (x5_2.length : Int)) = true := decide_eq_true c14
            clear c14
            obtain ⟨y105, hy105⟩ : ∃ y_ : List Int, y_ = (x5_2.set (x6_2 : Int).toNat ((x0_2) % 256)) := ⟨_, rfl⟩
            replace H : (tlv_Num.l1 k2 (x0_2 / 256) y105 (wrap64 (x6_2 - 1))) = some r := by first | (rw [hy105]; with_reducible exact H) | (have H2_ := (Option.bind_some _ _).symm.trans H; rw [hy105]; with_reducible exact H2_) | (have H2_ := (Option.bind_some _ _).symm.trans H; with_reducible exact H2_) | with_reducible exact H | (rw [hy105]; exact H) | exact H
            have Ny105 := Aside0.mk hy105
            clear hy105
            have H' := Aside0.mk H
            clear H
            have p15 : 0 ≤ (x6_2 : Int) := of_decide_eq_true (by first | (with_reducible assumption) | assumption)
            have q15 : (x6_2 : Int) < ((x5_2.length : Int) : Int) := of_decide_eq_true (by first | (with_reducible assumption) | assumption)
            obtain ⟨hx15_0, hf15_0⟩ := Kd.R_celln 0 HO_5.out (x6_2 : Int) p15 q15
            replace p15 := eq_true p15
            replace q15 := eq_true q15
            have HP16 := Kd.R_putg HO_5.out (x6_2 : Int) ((x0_2) % 256)
            go_wp2_with (first | ((with_reducible refine gate_store (t := 5) (p := 30) rfl ?_); refine store_event (t := 5) (p := 30) (v := ?vo_w17) (w1 := (wr.setCell ⟨go7, (x6_2 : Int).toNat, none⟩ (.int .u8 ((x0_2) % 256)))) ?hg ?ho ?hn ?hr ?_; (case ho => rfl); (case hg => rfl); (case hn => rfl); (case hr => first | (go_simp; done) | (go_simp; rfl)); intro w17 hw; have hg : wr.grownBy w17 (some go7) := (by rw [hw]; exact HP16.2); have hp_ : Kd.R (Kd.int .u8) 5 w17 w.heap.size (fun _ => True) (.slice (some ⟨go7, 0, none⟩) x5_2.length co7) y105 := (by rw [hw, Ny105.out]; exact HP16.1); clear HP16; have n0_ := Aside0.mk (hp_); have n1_ := Aside0.mk ((by rw [hw]; exact below_set (HB.out) GB7.out : Below w.heap.size w w17)); clear HO_5; clear HB; have HO_5 := n0_; have HB := n1_; clear n0_ n1_; clear hg hw hp_))
            (try simp only [← hl5_2])
            go_roundg k2
            case measure => have := HK1.out; have := HK2.out; omega
            case rel => exact ⟨(x0_2 / 256), (y105), (wrap64 (x6_2 - 1)), (by first | rfl | (simp; done) | (simp [*]; done)), (by first | rfl | (simp; done) | (simp [*]; done)), H', ⟨by have := HK1.out; have := HK2.out; omega⟩, ⟨by (try simp only [hl5_2]); (with_reducible repeat (first | apply Kd.R_alloc | apply Kd.R_drewN | apply Kd.R_drew)); exact HO_5.out⟩, ⟨by repeat (first | (with_reducible first | exact HB.out | apply below_alloc | apply pw_below_drewN | apply below_drew1) | exact HB.out)⟩⟩
           ·rw [if_neg c14] at H
            exact absurd H (by simp)
          ·rw [if_neg c13] at H
           exact absurd H (by simp)
         ·rw [if_neg c12] at H
          have c12b0 : decide (0 < x6_2) = false := decide_eq_false c12
          clear c12
          obtain rfl := Option.some.inj H
          go_wp2
          go_ret
          exact ⟨_, by first | rfl | (simp [errW_none, errW_some] <;> rfl) | (simp only [← hji3]; first | rfl | (simp [errW_none, errW_some] <;> rfl)) | (simp [*, errW_none, errW_some] <;> rfl), by (with_reducible repeat (first | apply Kd.R_alloc | apply Kd.R_drewN | apply Kd.R_drew)); exact HO_5.out, by repeat (first | (with_reducible first | exact HB.out | apply below_alloc | apply pw_below_drewN | apply below_drew1) | exact HB.out)⟩
      ·rw [if_neg c6] at H
       exact absurd H (by simp)
     ·rw [if_neg c5] at H
      exact absurd H (by simp)
    ·rw [if_neg c4] at H
     exact absurd H (by simp)

end Go.Proofs.Ytfpkgdenohcglaa.PZ
-- printed for this claim by a program (pall.sh)
-- mended by fixpz.py
namespace Go.Proofs.Ytfpkgdenohcglaa.PZ
open Go.RowKit Go.Proofs.YtfpkgdenohcglaaW.PrintWords Go.Proofs.YtfpkgdenohcglaaW.PrintLast Go.Proofs.YtfpkgdenohcglaaW.PrintMore
attribute [local go_sem] max2_int min2_int max_two min_two max_three min_three max_four min_four   -- for this text's walks alone
set_option linter.unusedVariables false
set_option linter.unusedSimpArgs false

/-! ### tlv_Text: function 66 -/
def tlv_Text.f (k : Nat) (l0 : List Int) : Option (List Int) := (tlv_Num.f k (IntKind.u64.wrap ((l0.length : Int)))).bind fun t101 => (if t101.length + l0.length < 140737488355328 then (some (t101 ++ l0)) else (none))
set_option maxHeartbeats 8000000 in
set_option maxRecDepth 100000 in
theorem tlv_Text.calls (k : Nat) (A0 : Option Addr) (c0 : Nat) (l0 : List Int) (r : List Int) (w : World) (hr0 : Kd.C (Kd.int .u8) w A0 l0.length l0) (hc0 : l0.length ≤ c0) (h : tlv_Text.f k l0 = some r) :
  Calls Try.prog 66 #[.slice A0 l0.length c0] w fun e w' => ∃ v0_ : Value, e = .returned (v0_) ∧ Kd.R (Kd.int .u8) 5 w' w.heap.size (fun _ => True) v0_ r ∧ Below w.heap.size w w' := by
 have HR0 := Aside0.mk hr0
 have HC0 := Aside0.mk hc0
 clear hr0 hc0
 have HB := Aside0.mk (Below.refl w.heap.size w)
 have H : ((tlv_Num.f k (IntKind.u64.wrap ((l0.length : Int)))).bind fun t101 => (if t101.length + l0.length < 140737488355328 then (some (t101 ++ l0)) else (none))) = some r := h
 clear h
 replace H := Option.bind_eq_some_iff.mp H
 obtain ⟨t101, A20, H⟩ := H
 replace H : (if t101.length + l0.length < 140737488355328 then (some (t101 ++ l0)) else (none)) = some r := H
 have A2 := Aside0.mk A20
 clear A20
 by_cases c3 : t101.length + l0.length < 140737488355328
 ·rw [if_pos c3] at H
  have LMc3 := Aside0.mk c3
  clear c3
  obtain ⟨y104, hy104⟩ : ∃ y_ : List Int, y_ = (t101 ++ l0) := ⟨_, rfl⟩
  replace H : (some y104) = some r := by first | (rw [hy104]; with_reducible exact H) | (have H2_ := (Option.bind_some _ _).symm.trans H; rw [hy104]; with_reducible exact H2_) | (have H2_ := (Option.bind_some _ _).symm.trans H; with_reducible exact H2_) | with_reducible exact H | (rw [hy104]; exact H) | exact H
  have Ny104 := Aside0.mk hy104
  clear hy104
  obtain rfl := Option.some.inj H
  go_enter Try.func66, Try.ntmps66
  go_wp2_with (first | ((with_reducible refine gate_callee (f := 65) rfl ?_); refine goesL_ (some 6) rfl rfl Try.func65 (by kernel_rfl) rfl #[.int .u64 (IntKind.u64.wrap ((l0.length : Int)))] rfl (by (try simp only [List.map_toArray, List.map_cons, List.map_nil]); first | done | rfl | (simp only [List.length_drop, List.length_take]; rfl)) ?_; (with_reducible refine (tlv_Num.calls k (IntKind.u64.wrap ((l0.length : Int))) t101 _ A2.out).mono ?_); rintro e w4 ⟨v102, rfl, ho0, hb⟩; refine ⟨_, rfl, ?_⟩; have n0_ := Aside0.mk (Kd.R_lower ho0 (below_size (by repeat (first | (with_reducible first | exact HB.out | apply below_alloc | apply pw_below_drewN | apply below_drew1) | exact HB.out)))); have n1_ := Aside0.mk (below_step (by repeat (first | (with_reducible first | exact HB.out | apply below_alloc | apply pw_below_drewN | apply below_drew1) | exact HB.out)) hb); clear HB; have HO103 := n0_; have HB := n1_; clear n0_ n1_; (try clear hb); (try clear hb2); (try clear hk); (try clear hi); (try clear ho0)) | ((with_reducible refine gate_builtin (b := .append) (xs := #[.tmp 6, .tmp 7]) rfl ?_); at_builtin; refine Kd.R_append_rows (Kd.int .u8) (w0 := w) w.heap.size rfl (.tmp 6) (.tmp 7) 25 5 (.int .u8 0) 1 rfl Try.underlying25 info5 rfl (by decide) (by omega) v102 t101 l0 _ _ _ (fun _ => True) (fun _ => False) rfl rfl ?aO ?aR (fun _ _ h => h) (fun _ h => h.elim) ?aF ?aB ?aS ?aL ?_; (case aR => repeat (first | exact (Kd.C_below HR0.out HB.out) | (with_reducible refine Kd.C_alloc ?_ _) | (with_reducible refine Kd.C_drewN ?_ _) | (with_reducible refine Kd.C_drew ?_))); (case aB => exact (by repeat (first | (with_reducible first | exact HB.out | apply below_alloc | apply pw_below_drewN | apply below_drew1) | exact HB.out))); (case aF => exact (fun _ _ => trivial)); (case aO => exact (by (with_reducible repeat (first | apply Kd.R_alloc | apply Kd.R_drewN | apply Kd.R_drew)); exact HO103.out)); (case aS => exact (below_size (by repeat (first | (with_reducible first | exact HB.out | apply below_alloc | apply pw_below_drewN | apply below_drew1) | exact HB.out)))); (case aL => have := LMc3.out; omega); intro v105 w5 ho hb hg hat; rw [← Ny104.out] at ho; have n0_ := Aside0.mk (hb); have n1_ := Aside0.mk (ho); clear HB; clear HO103; have HB := n0_; have HO106 := n1_; clear n0_ n1_; clear ho hb hg hat))
  go_ret
  exact ⟨_, by first | rfl | (simp [errW_none, errW_some] <;> rfl) | (simp [*, errW_none, errW_some] <;> rfl), by (with_reducible repeat (first | apply Kd.R_alloc | apply Kd.R_drewN | apply Kd.R_drew)); exact HO106.out, by repeat (first | (with_reducible first | exact HB.out | apply below_alloc | apply pw_below_drewN | apply below_drew1) | exact HB.out)⟩
 ·rw [if_neg c3] at H
  exact absurd H (by simp)

end Go.Proofs.Ytfpkgdenohcglaa.PZ
-- printed for this claim by a program (pall.sh)
-- mended by fixpz.py
namespace Go.Proofs.Ytfpkgdenohcglaa.PZ
open Go.RowKit Go.Proofs.YtfpkgdenohcglaaW.PrintWords Go.Proofs.YtfpkgdenohcglaaW.PrintLast Go.Proofs.YtfpkgdenohcglaaW.PrintMore
attribute [local go_sem] max2_int min2_int max_two min_two max_three min_three max_four min_four   -- for this text's walks alone
set_option linter.unusedVariables false
set_option linter.unusedSimpArgs false

/-! ### tlv_Int: function 84 -/
def tlv_Int.f (k : Nat) (a0 : Int) : Option (List Int) := (tlv_Num.f k (IntKind.u64.wrap (a0))).bind fun t101 => (some t101)
set_option maxHeartbeats 8000000 in
set_option maxRecDepth 100000 in
theorem tlv_Int.calls (k : Nat) (a0 : Int) (r : List Int) (w : World) (h : tlv_Int.f k a0 = some r) :
  Calls Try.prog 84 #[.int .i64 a0] w fun e w' => ∃ v0_ : Value, e = .returned (v0_) ∧ Kd.R (Kd.int .u8) 5 w' w.heap.size (fun _ => True) v0_ r ∧ Below w.heap.size w w' := by
 have HB := Aside0.mk (Below.refl w.heap.size w)
 have H : ((tlv_Num.f k (IntKind.u64.wrap (a0))).bind fun t101 => (some t101)) = some r := h
 clear h
 replace H := Option.bind_eq_some_iff.mp H
 obtain ⟨t101, A20, H⟩ := H
 replace H : (some t101) = some r := H
 have A2 := Aside0.mk A20
 clear A20
 obtain rfl := Option.some.inj H
 go_enter Try.func84, Try.ntmps84
 go_wp2_with (first | ((with_reducible refine gate_callee (f := 65) rfl ?_); refine goesL_ (some 5) rfl rfl Try.func65 (by kernel_rfl) rfl #[.int .u64 (IntKind.u64.wrap (a0))] rfl (by (try simp only [List.map_toArray, List.map_cons, List.map_nil]); first | done | rfl | (simp only [List.length_drop, List.length_take]; rfl)) ?_; (with_reducible refine (tlv_Num.calls k (IntKind.u64.wrap (a0)) t101 _ A2.out).mono ?_); rintro e w3 ⟨v102, rfl, ho0, hb⟩; refine ⟨_, rfl, ?_⟩; have n0_ := Aside0.mk (Kd.R_lower ho0 (below_size (by repeat (first | (with_reducible first | exact HB.out | apply below_alloc | apply pw_below_drewN | apply below_drew1) | exact HB.out)))); have n1_ := Aside0.mk (below_step (by repeat (first | (with_reducible first | exact HB.out | apply below_alloc | apply pw_below_drewN | apply below_drew1) | exact HB.out)) hb); clear HB; have HO103 := n0_; have HB := n1_; clear n0_ n1_; (try clear hb); (try clear hb2); (try clear hk); (try clear hi); (try clear ho0)))
 go_ret
 exact ⟨_, by first | rfl | (simp [errW_none, errW_some] <;> rfl) | (simp [*, errW_none, errW_some] <;> rfl), by (with_reducible repeat (first | apply Kd.R_alloc | apply Kd.R_drewN | apply Kd.R_drew)); exact HO103.out, by repeat (first | (with_reducible first | exact HB.out | apply below_alloc | apply pw_below_drewN | apply below_drew1) | exact HB.out)⟩

end Go.Proofs.Ytfpkgdenohcglaa.PZ
