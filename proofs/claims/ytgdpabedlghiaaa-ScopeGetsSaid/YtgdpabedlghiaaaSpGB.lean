/- Own and printed texts, laid together. -/
import Derived.Test.YtgdpabedlghiaaaProg
import Derived.Below
import Derived.Deep.Draws
import Derived.Deep.AppendLies
import Derived.Maps.AppendAt
import Derived.OwnWalk
import Derived.Laws.BytesArg
import Derived.Laws.MakeOwn
import Derived.Laws.OwnMore
import Derived.Deep.OwnRows
import Derived.Tactics
import Derived.Lib.ConvBytes
import Derived.Laws.Slices
import Derived.WalkKit
import Derived.KernelRfl
import Derived.RowKit3
import Derived.Deep.LoopGhost
import Derived.Deep.QuietTactic
import Derived.BigQuiet
import Derived.WideLaws
import Derived.Deep.DeepCutAuto
import Derived.Deep.CutBlock
import Derived.Deep.RegionHeld3
import Derived.Laws.Rows
import Derived.Lib.AppendStr
import Derived.ArgAppend
import Derived.Laws.IdiomCopy
import Derived.OrdersHeld
import Derived.Laws.BitsLemmas
import Derived.RowKit
import Derived.Test.YtgdpabedlghiaaaSpGA
import Derived.Lib.SlBytesConst
import Derived.Laws.EntriesVeiled
import Derived.Shelf.GgClosure.StringsIndexFunc
/- What every text of this claim stands on: the imports, and a few laws on kinds. -/
namespace Go.Proofs.Ytgdpabedlghiaaa.Base
open Go.RowKit Go.Proofs.YtgdpabedlghiaaaW.PrintWords Go.Proofs.YtgdpabedlghiaaaW.PrintLast Go.Proofs.YtgdpabedlghiaaaW.PrintMore

/-- Bytes that are read stay so where another block alone is written. -/
theorem reads_keep {w w1 : World} {g : Nat} {k : IntKind} {A : Option Addr} {xs : List Int} (h : Kd.C (Kd.int k) w A xs.length xs) (hk : KeepBut w w1 g none) (hne : ∀ a, A = some a → 0 < xs.length → a.block ≠ g) : Kd.C (Kd.int k) w1 A xs.length xs := by
  have h' := Kd.reads_of_C (d := (0 : Int)) h
  refine Kd.C_of_reads (d := (0 : Int)) ⟨h'.1, h'.2.1, fun h0 => ?_⟩
  obtain ⟨ad, e, hc⟩ := h'.2.2 h0
  refine ⟨ad, e, fun j hj => keep_cell hk (hc j hj) ?_⟩
  rw [show (ad.add j).block = ad.block from by unfold Addr.add; split <;> rfl]
  exact hne ad e h0
theorem keep_set (w : World) (g j : Nat) (v : Value) : KeepBut w (w.setCell ⟨g, j, none⟩ v) g none := (KeepBut.refl w g none).set_ j v
/-- Numbers do not lie in a block whose cells are none. -/
theorem reads_ne {w : World} {g T : Nat} {cs : Array Value} {k : IntKind} {A : Option Addr} {xs : List Int} (hb : w.heap[g]? = some (.cells cs T (0, 0))) (hcs : ∀ i : Nat, ∀ v, cs[i]? = some v → ∀ n, v ≠ .int k n) (h : Kd.C (Kd.int k) w A xs.length xs) : ∀ a, A = some a → 0 < xs.length → a.block ≠ g := by
  intro a ha h0 hg
  have h' := Kd.reads_of_C (d := (0 : Int)) h
  obtain ⟨ad, e, hc⟩ := h'.2.2 h0
  rw [ha] at e
  injection e with e
  subst e
  have h1 := hc 0 h0
  have e0 : (a.add 0).block = g := by rw [show (a.add 0).block = a.block from by unfold Addr.add; split <;> rfl]; exact hg
  unfold World.cell? at h1
  rw [e0, hb] at h1
  dsimp only at h1
  split at h1
  · cases h1
  · exact hcs _ _ h1 _ rfl
/-- Bytes that are read. -/
abbrev Rb (w : World) (A : Option Addr) (xs : List Int) : Prop := Kd.C (Kd.int .u8) w A xs.length xs
/-- Bytes of the call's own. -/
abbrev Ob (w : World) (base : Nat) (v : Value) (xs : List Int) : Prop := Kd.R (Kd.int .u8) 5 w base (fun _ => True) v xs
theorem info_u8 : (Try.prog.info? 5).map (fun i => (i.zero, i.size, i.bytes)) = some (some (.int .u8 0), 1, 1) := by kernel_rfl
theorem rd_nat' (xs : List Int) (i : Nat) (h : i < xs.length) : rd xs (i : Int) = xs[i] := by simp [rd, List.getD_eq_getElem?_getD, List.getElem?_eq_getElem h]
/-- A row of bytes of the call's own, read. -/
theorem Ob.reads {w : World} {base : Nat} {v : Value} {xs : List Int} (h : Ob w base v xs) : ∃ A c, v = .slice A xs.length c ∧ xs.length ≤ c ∧ Rb w A xs := Kd.R_reads h
theorem Rb.at0 {w : World} {A : Option Addr} {x : Int} {xs : List Int} (h : Rb w A (x :: xs)) : ∃ ad, A = some ad ∧ w.cell? ad = some (.int .u8 x) := by
  obtain ⟨ad, e, hc⟩ := Kd.at_int h 0 (by omega) (by simp)
  exact ⟨ad, e, by simpa [rd, Addr.add] using hc⟩
/-- Rows of bytes that are read. -/
abbrev Rr (w : World) (A : Option Addr) (xs : List (List Int)) : Prop := Kd.C (Kd.slice 5 (Kd.int .u8)) w A xs.length xs
/-- A take of bytes that are read. -/
theorem Rb.take {w : World} {A : Option Addr} {xs : List Int} (h : Rb w A xs) (n : Nat) (hn : n ≤ xs.length) : Rb w A (xs.take n) := by
  have h5 := Kd.C_of_reads (d := (0 : Int)) (h1 := fun _ => rfl) (ReadsInt.take_ (Kd.reads_of_C (d := (0 : Int)) h) n hn)
  show Kd.C _ w A (xs.take n).length (xs.take n)
  rw [show (xs.take n).length = n from by rw [List.length_take]; omega]
  exact h5
theorem Rb.len {w : World} {A : Option Addr} {xs : List Int} (h : Rb w A xs) : xs.length ≤ 9223372036854775807 := (Kd.reads_of_C (d := (0 : Int)) h).2.1
end Go.Proofs.Ytgdpabedlghiaaa.Base
/- Small plain laws on rounds, numbers and lists. -/
namespace Go.Proofs.Ytgdpabedlghiaaa.Aid
open Go.RowKit Go.Proofs.YtgdpabedlghiaaaW.PrintWords Go.Proofs.YtgdpabedlghiaaaW.PrintLast

theorem pos {α : Type} {c : Prop} [Decidable c] {a b : Nat → Option α} {r : α} (h : c) (e : Ev a r) : Ev (fun k => if c then a k else b k) r := by
  simpa only [if_pos h] using e
theorem neg {α : Type} {c : Prop} [Decidable c] {a b : Nat → Option α} {r : α} (h : ¬ c) (e : Ev b r) : Ev (fun k => if c then a k else b k) r := by
  simpa only [if_neg h] using e
theorem now {α : Type} {r s : α} (h : r = s) : Ev (fun _ => some r) s := h ▸ Ev.now r
theorem evBind {α β : Type} {g : Nat → Option α} {f : Nat → α → Option β} {a : α} {r : β} (h : Ev g a) (k : Ev (fun n => f n a) r) : Ev (fun n => (g n).bind (f n)) r := h.bind k
theorem bindSome {α β : Type} {o : Option α} {f : Nat → α → Option β} {a : α} {r : β} (h : o = some a) (k : Ev (fun n => f n a) r) : Ev (fun n => o.bind (f n)) r := by
  subst h; exact k
theorem w64 {x : Int} (h0 : -9223372036854775808 ≤ x) (h1 : x ≤ 9223372036854775807) : wrap64 x = x := by unfold wrap64; omega
theorem u64 {x : Int} (h0 : 0 ≤ x) (h1 : x ≤ 18446744073709551615) : IntKind.u64.wrap x = x := IntWalk.u64_in x ⟨h0, h1⟩
theorem rd_nat (xs : List Int) (i : Nat) (h : i < xs.length) : rd xs (i : Int) = xs[i] := by
  simp [rd, List.getD_eq_getElem?_getD, List.getElem?_eq_getElem h]
theorem drop_cons {α : Type} (xs : List α) (i : Nat) (h : i < xs.length) : xs.drop i = xs[i] :: xs.drop (i + 1) := List.drop_eq_getElem_cons h
theorem inc {i n : Nat} (h : i < n) (hn : n ≤ 4611686018427387904) : wrap64 ((i : Int) + 1) = ((i + 1 : Nat) : Int) := by rw [w64 (by omega) (by omega)]; rfl
theorem take_snoc {α : Type} (xs : List α) (i : Nat) (h : i < xs.length) : xs.take (i + 1) = xs.take i ++ [xs[i]] := List.take_succ_eq_append_getElem h
end Go.Proofs.Ytgdpabedlghiaaa.Aid
/- What a reader of bytes answers, in plain words: its state is the bytes that are left, or that it failed. -/
namespace Go.Proofs.Ytgdpabedlghiaaa.TlvPlain
open Go.Proofs.Ytgdpabedlghiaaa.Base Go.RowKit Go.Proofs.YtgdpabedlghiaaaW.PrintWords

def U8 (b : List Int) : Prop := ∀ x ∈ b, 0 ≤ x ∧ x ≤ 255
theorem U8.take {b : List Int} (h : U8 b) (n : Nat) : U8 (b.take n) := fun x hx => h x (List.mem_of_mem_take hx)
theorem U8.drop {b : List Int} (h : U8 b) (n : Nat) : U8 (b.drop n) := fun x hx => h x (List.mem_of_mem_drop hx)
theorem U8.nil : U8 [] := fun _ h => by cases h
theorem U8.append {a b : List Int} (h : U8 a) (k : U8 b) : U8 (a ++ b) := fun x hx => (List.mem_append.1 hx).elim (h x) (k x)
theorem U8.cons {x : Int} {b : List Int} (h : 0 ≤ x ∧ x ≤ 255) (k : U8 b) : U8 (x :: b) := fun y hy => (List.mem_cons.1 hy).elim (fun e => e ▸ h) (k y)
theorem U8.head {x : Int} {b : List Int} (h : U8 (x :: b)) : 0 ≤ x ∧ x ≤ 255 := h x (List.mem_cons_self ..)
theorem U8.tail {x : Int} {b : List Int} (h : U8 (x :: b)) : U8 b := fun y hy => h y (List.mem_cons_of_mem _ hy)

def takeO (st : Option (List Int)) (n : Int) : List Int × Option (List Int) :=
  match st with
  | some bs => if 0 ≤ n ∧ n ≤ bs.length then (bs.take n.toNat, some (bs.drop n.toNat)) else ([], none)
  | none => ([], none)
/-- The number of bytes, the highest first. -/
def valueB (l : List Int) : Int := l.foldl (fun n c => n * 256 + c) 0
def numO (st : Option (List Int)) : Int × Option (List Int) :=
  match st with
  | some (x :: r) =>
    if x > 8 then (0, none) else
    if (r.length : Int) < x then (0, none) else
    if 0 < x ∧ r.getD 0 0 = 0 then (0, none) else (valueB (r.take x.toNat), some (r.drop x.toNat))
  | _ => (0, none)
def countO (st : Option (List Int)) (most : Int) : Int × Option (List Int) :=
  if most < 0 ∨ (numO st).1 > most then (0, none) else numO st
def textO (st : Option (List Int)) (most : Int) : List Int × Option (List Int) := takeO (countO st most).2 (countO st most).1
def leftO (st : Option (List Int)) : Int := match st with | some bs => bs.length | none => 0

theorem valueB_snoc (l : List Int) (c : Int) : valueB (l ++ [c]) = valueB l * 256 + c := by simp [valueB]
theorem valueB_range {l : List Int} (h : U8 l) : 0 ≤ valueB l ∧ valueB l < 256 ^ l.length := by
  have H : ∀ n (l : List Int), l.length = n → U8 l → 0 ≤ valueB l ∧ valueB l < 256 ^ l.length := by
    intro n
    induction n with
    | zero =>
      intro l hl _
      have : l = [] := List.length_eq_zero_iff.1 hl
      subst this
      simp [valueB]
    | succ n ih =>
      intro l hl hu
      have hne : l ≠ [] := by intro e; rw [e] at hl; cases hl
      rw [← List.dropLast_concat_getLast hne, valueB_snoc]
      have h1 := ih l.dropLast (by simp [hl]) (fun x hx => hu x ((List.dropLast_sublist l).subset hx))
      have h2 := hu (l.getLast hne) (List.getLast_mem hne)
      rw [List.length_append, List.length_singleton, Int.pow_succ]
      omega
  exact H _ l rfl h
theorem valueB_u64 {l : List Int} (h : U8 l) (hl : l.length ≤ 8) : 0 ≤ valueB l ∧ valueB l ≤ 18446744073709551615 := by
  have := valueB_range h
  have key : ∀ n : Nat, n ≤ 8 → (256 : Int) ^ n ≤ 18446744073709551616 := by
    intro n hn
    have : n = 0 ∨ n = 1 ∨ n = 2 ∨ n = 3 ∨ n = 4 ∨ n = 5 ∨ n = 6 ∨ n = 7 ∨ n = 8 := by omega
    rcases this with rfl | rfl | rfl | rfl | rfl | rfl | rfl | rfl | rfl <;> decide +kernel
  have := key _ hl
  omega
/-- One byte more at the end: in words of 64 bits. -/
theorem or_byte (n c : Int) (hn0 : 0 ≤ n) (hn : n * 256 + 255 ≤ 18446744073709551615) (hc0 : 0 ≤ c) (hc : c ≤ 255) : Go.bits .or .u64 (n * 256) c = n * 256 + c := by
  obtain ⟨a, rfl⟩ := Int.eq_ofNat_of_zero_le hn0
  obtain ⟨b, rfl⟩ := Int.eq_ofNat_of_zero_le hc0
  have e1 : BitVec.ofInt IntKind.u64.bits ((a : Int) * 256) = BitVec.ofNat 64 (a * 256) := by
    rw [show ((a : Int) * 256) = ((a * 256 : Nat) : Int) from by omega]; rfl
  have e2 : BitVec.ofInt IntKind.u64.bits (b : Int) = BitVec.ofNat 64 b := rfl
  have e3 : (BitVec.ofNat 64 (a * 256) ||| BitVec.ofNat 64 b).toNat = a * 256 + b := by
    rw [BitVec.toNat_or, BitVec.toNat_ofNat, BitVec.toNat_ofNat, Nat.mod_eq_of_lt (by omega), Nat.mod_eq_of_lt (by omega)]
    have := Nat.shiftLeft_add_eq_or_of_lt (i := 8) (b := b) (show b < 2 ^ 8 by omega) a
    rw [Nat.shiftLeft_eq] at this
    exact this.symm
  unfold Go.bits
  simp only [e1, e2]
  show IntKind.u64.wrap (((BitVec.ofNat 64 (a * 256) ||| BitVec.ofNat 64 b : BitVec 64).toNat : Nat) : Int) = _
  rw [e3]
  exact IntWalk.u64_in _ (by omega)
theorem numO_range {st : Option (List Int)} (hu : ∀ bs, st = some bs → U8 bs) : 0 ≤ (numO st).1 ∧ (numO st).1 ≤ 18446744073709551615 := by
  unfold numO
  split
  · next x r =>
    split
    · simp
    · split
      · simp
      · split
        · simp
        · exact valueB_u64 ((hu _ rfl).tail.take _) (by rw [List.length_take]; omega)
  · simp
end Go.Proofs.Ytgdpabedlghiaaa.TlvPlain
-- printed for this claim by a program (pall.sh)
-- mended by fixpz.py
namespace Go.Proofs.Ytgdpabedlghiaaa.PZ
open Go.RowKit Go.Proofs.YtgdpabedlghiaaaW.PrintWords Go.Proofs.YtgdpabedlghiaaaW.PrintLast Go.Proofs.YtgdpabedlghiaaaW.PrintMore
attribute [local go_sem] max2_int min2_int max_two min_two max_three min_three max_four min_four   -- for this text's walks alone
set_option linter.unusedVariables false
set_option linter.unusedSimpArgs false



def errW : Option Int → Value
 | none => .nilIface
 | some c => .iface 0 (.int .i64 c)
theorem errW_none : errW none = .nilIface := rfl
theorem errW_some (c : Int) : errW (some c) = .iface 0 (.int .i64 c) := rfl

theorem info5 : (Try.prog.info? 5).map (fun i => (i.zero, i.size, i.bytes)) = some (some (.int .u8 0), 1, 1) := by kernel_rfl
-- the values' own types
def rd_L2 (xs : List (List Int)) (i : Int) : (List Int) := xs.getD i.toNat ([] : List Int)
theorem at_L2 {w : World} {A : Option Addr} {n : Nat} {xs : List (List Int)} (h : Kd.C (Kd.slice 5 (Kd.int .u8)) w A n xs) (i : Int) (h0 : 0 ≤ i) (h1 : i < n) : ∃ ad A0 c0, A = some ad ∧ w.cell? (ad.add i.toNat) = some (.slice A0 (rd_L2 xs i).length c0) ∧ (rd_L2 xs i).length ≤ c0 ∧ (Kd.int .u8).C w A0 (rd_L2 xs i).length (rd_L2 xs i) := by
 obtain ⟨ad, c, e, _, hK, hc0⟩ := Kd.C_get h ([] : List Int) i h0 h1
 have hc : ∀ j u, c[j]? = some u → w.cell? (ad.add (i.toNat * 1 + j)) = some u := hc0
 obtain ⟨A0, c0, rfl, l0, g0⟩ := hK
 exact ⟨ad, A0, c0, e, by have hq := hc 0 _ rfl; rwa [Nat.mul_one, Nat.add_zero] at hq, l0, g0⟩

/-! #### struct type 40, nested in itself -/
structure S40 where
 f0 : Int
 f1 : ByteArray
 f2 : Int
 f3 : Int
 f4 : (List S40)
def z40 : S40 := ⟨(0 : Int), (⟨#[]⟩ : ByteArray), (0 : Int), (0 : Int), ([] : List S40)⟩
def F40 (d : Kd S40) : Kd S40 := Kd.iso (Kd.pair (Kd.int .i64) (Kd.pair Kd.string (Kd.pair (Kd.int .i64) (Kd.pair (Kd.int .i64) (Kd.slice 40 d))))) (fun x : S40 => (x.f0, x.f1, x.f2, x.f3, x.f4))
theorem mono40 : Kd.Mono F40 := Kd.mono_iso _ (Kd.mono_pair (Kd.mono_const _) (Kd.mono_pair (Kd.mono_const _) (Kd.mono_pair (Kd.mono_const _) (Kd.mono_pair (Kd.mono_const _) (Kd.mono_slice 40 Kd.mono_id)))))
theorem sub40 : Kd.Sub F40 [40] := Kd.sub_iso _ (Kd.sub_pair (Kd.sub_const _ (by decide)) (Kd.sub_pair (Kd.sub_const _ (by decide)) (Kd.sub_pair (Kd.sub_const _ (by decide)) (Kd.sub_pair (Kd.sub_const _ (by decide)) (Kd.sub_slice 40 (by decide) Kd.sub_id)))))
theorem sz40 : ∀ n, (Kd.upto F40 5 [40] n).sz = 5 := Kd.upto_sz (fun _ => rfl)
def k40 : Kd S40 := Kd.fix F40 5 [40] sz40 (Kd.upto_E sub40)
theorem k40_open {w : World} {x : S40} {cs : List Value} (h : k40.K w x cs) : ∃ A4 c4, cs = [.int .i64 x.f0, .string x.f1, .int .i64 x.f2, .int .i64 x.f3, .slice A4 x.f4.length c4] ∧ x.f4.length ≤ c4 ∧ k40.C w A4 x.f4.length x.f4 := by
 obtain ⟨n, h⟩ := h
 cases n with
 | zero => exact h.elim
 | succ n =>
  obtain ⟨_, _, rfl, rfl, ⟨_, _, rfl, rfl, ⟨_, _, rfl, rfl, ⟨_, _, rfl, rfl, ⟨A4, c4, rfl, l4, g4⟩⟩⟩⟩⟩ := h
  exact ⟨A4, c4, rfl, l4, Kd.fix_C g4⟩
theorem k40_mk (w : World) (x : S40) {A4 : Option Addr} {c4 : Nat} (l4 : x.f4.length ≤ c4) (g4 : k40.C w A4 x.f4.length x.f4) : k40.K w x [.int .i64 x.f0, .string x.f1, .int .i64 x.f2, .int .i64 x.f3, .slice A4 x.f4.length c4] := by
 obtain ⟨n4, q4⟩ := Kd.fix_C_back mono40 g4
 have r4 := Kd.upto_C_le mono40 sz40 (show n4 ≤ n4 by omega) q4
 exact ⟨n4 + 1, ⟨[.int .i64 x.f0], [.string x.f1, .int .i64 x.f2, .int .i64 x.f3, .slice A4 x.f4.length c4], rfl, rfl, ⟨[.string x.f1], [.int .i64 x.f2, .int .i64 x.f3, .slice A4 x.f4.length c4], rfl, rfl, ⟨[.int .i64 x.f2], [.int .i64 x.f3, .slice A4 x.f4.length c4], rfl, rfl, ⟨[.int .i64 x.f3], [.slice A4 x.f4.length c4], rfl, rfl, ⟨A4, c4, rfl, l4, r4⟩⟩⟩⟩⟩⟩
theorem k40_mkM (w : World) (base : Nat) (ok : Nat → Prop) (x : S40) {v4 : Value} (g4 : k40.R 40 w base ok v4 x.f4) : k40.M w base ok x [.int .i64 x.f0, .string x.f1, .int .i64 x.f2, .int .i64 x.f3, v4] := by
 obtain ⟨n4, q4⟩ := Kd.fix_R_back mono40 g4
 have r4 := Kd.upto_R_le mono40 sz40 (show n4 ≤ n4 by omega) q4
 exact ⟨n4 + 1, ⟨[.int .i64 x.f0], [.string x.f1, .int .i64 x.f2, .int .i64 x.f3, v4], rfl, rfl, ⟨[.string x.f1], [.int .i64 x.f2, .int .i64 x.f3, v4], rfl, rfl, ⟨[.int .i64 x.f2], [.int .i64 x.f3, v4], rfl, rfl, ⟨[.int .i64 x.f3], [v4], rfl, rfl, ⟨v4, rfl, r4⟩⟩⟩⟩⟩⟩
def rd_T40 (xs : List S40) (i : Int) : S40 := xs.getD i.toNat z40
theorem at_T40 {w : World} {A : Option Addr} {n : Nat} {xs : List S40} (h : Kd.C k40 w A n xs) (i : Int) (h0 : 0 ≤ i) (h1 : i < n) : ∃ ad A4 c4, A = some ad ∧ w.cell? (ad.add (i.toNat * 5)) = some (.int .i64 (rd_T40 xs i).f0) ∧ w.cell? ⟨(ad.add (i.toNat * 5)).block, (ad.add (i.toNat * 5)).off + 1, none⟩ = some (.string (rd_T40 xs i).f1) ∧ w.cell? ⟨(ad.add (i.toNat * 5)).block, (ad.add (i.toNat * 5)).off + 2, none⟩ = some (.int .i64 (rd_T40 xs i).f2) ∧ w.cell? ⟨(ad.add (i.toNat * 5)).block, (ad.add (i.toNat * 5)).off + 3, none⟩ = some (.int .i64 (rd_T40 xs i).f3) ∧ w.cell? ⟨(ad.add (i.toNat * 5)).block, (ad.add (i.toNat * 5)).off + 4, none⟩ = some (.slice A4 (rd_T40 xs i).f4.length c4) ∧ (rd_T40 xs i).f4.length ≤ c4 ∧ k40.C w A4 (rd_T40 xs i).f4.length (rd_T40 xs i).f4 := by
 obtain ⟨ad, c, e, _, hK, hc0⟩ := Kd.C_get h z40 i h0 h1
 have hc : ∀ j u, c[j]? = some u → w.cell? (ad.add (i.toNat * 5 + j)) = some u := hc0
 obtain ⟨A4, c4, rfl, l4, g4⟩ := k40_open hK
 exact ⟨ad, A4, c4, e, hc 0 _ rfl, by rw [← add_field _ _ 1 (by omega)]; exact hc 1 _ rfl, by rw [← add_field _ _ 2 (by omega)]; exact hc 2 _ rfl, by rw [← add_field _ _ 3 (by omega)]; exact hc 3 _ rfl, by rw [← add_field _ _ 4 (by omega)]; exact hc 4 _ rfl, l4, g4⟩

/-! #### struct type 52 -/
structure S52 where
 f0 : ByteArray
 f1 : S40
 f2 : Bool
end Go.Proofs.Ytgdpabedlghiaaa.PZ
-- printed for this claim by a program (pall.sh)
-- mended by fixpz.py
namespace Go.Proofs.Ytgdpabedlghiaaa.PZ
open Go.RowKit Go.Proofs.YtgdpabedlghiaaaW.PrintWords Go.Proofs.YtgdpabedlghiaaaW.PrintLast Go.Proofs.YtgdpabedlghiaaaW.PrintMore
attribute [local go_sem] max2_int min2_int max_two min_two max_three min_three max_four min_four   -- for this text's walks alone
set_option linter.unusedVariables false
set_option linter.unusedSimpArgs false

/-! ### tlv_Num: function 104 -/
mutual
def tlv_Num.l0 : Nat → Int → Int → Int → Option (List Int)
 | 0, _, _, _ => none
 | k + 1, x0, x3, x4 => if x4 > 0 then (tlv_Num.l0 k x0 (wrap64 (x3 + 1)) (x4 / 256)) else (if 0 ≤ (wrap64 (1 + x3)) then (if (wrap64 (1 + x3) : Int).toNat ≤ 281474976710656 then ((some (List.replicate (wrap64 (1 + x3) : Int).toNat 0 : List Int)).bind fun y101 => (if 0 < (y101.length : Int) then (tlv_Num.l1 k x0 (y101.set (0 : Int).toNat ((x3) % 256)) x3) else (none))) else (none)) else (none))
def tlv_Num.l1 : Nat → Int → List Int → Int → Option (List Int)
 | 0, _, _, _ => none
 | k + 1, x0, x5, x6 => if x6 > 0 then (if 0 ≤ x6 then (if x6 < (x5.length : Int) then (tlv_Num.l1 k (x0 / 256) (x5.set (x6 : Int).toNat ((x0) % 256)) (wrap64 (x6 - 1))) else (none)) else (none)) else (some x5)
end
def tlv_Num.f (k : Nat) (a0 : Int) : Option (List Int) := tlv_Num.l0 k a0 0 a0
set_option maxHeartbeats 8000000 in
set_option maxRecDepth 100000 in
theorem tlv_Num.calls (k : Nat) (a0 : Int) (r : List Int) (w : World) (h : tlv_Num.f k a0 = some r) :
  Calls Try.prog 104 #[.int .u64 a0] w fun e w' => ∃ v0_ : Value, e = .returned (v0_) ∧ Kd.R (Kd.int .u8) 5 w' w.heap.size (fun _ => True) v0_ r ∧ Below w.heap.size w w' := by
 have HB := Aside0.mk (Below.refl w.heap.size w)
 have H : (tlv_Num.l0 k a0 0 a0) = some r := h
 clear h
 have H' := Aside0.mk H
 clear H
 go_enter Try.func104, Try.ntmps104
 go_wp2
 go_loopg [3, 4] k (fun kq v3 v4 w' => ∃ (x3_1 : Int) (x4_1 : Int), v3 = .int .i64 x3_1 ∧ v4 = .int .u64 x4_1 ∧ Aside0 (tlv_Num.l0 kq a0 x3_1 x4_1 = some r) ∧ Aside0 (kq ≤ k) ∧ Aside0 (Below w.heap.size w w'))
 case atStart => exact ⟨(0), (a0), (by first | rfl | (simp; done) | (simp [*]; done)), (by first | rfl | (simp; done) | (simp [*]; done)), H', ⟨Nat.le_refl _⟩, ⟨by repeat (first | (with_reducible first | exact HB.out | apply below_alloc | apply pw_below_drewN | apply below_drew1) | exact HB.out)⟩⟩
 case round =>
  clear H'
  (try clear c1)
  obtain ⟨x3_1, x4_1, rfl, rfl, HA, HK1, HB⟩ := hrel
  cases gk with
  | zero => exact absurd HA.out (by simp [tlv_Num.l0])
  | succ k1 =>
   have H := HA.out
   clear HA
   simp only [tlv_Num.l0] at H
   by_cases c2 : x4_1 > 0
   ·rw [if_pos c2] at H
    have c2b0 : decide (0 < x4_1) = true := decide_eq_true c2
    clear c2
    have H' := Aside0.mk H
    clear H
    go_wp2
    go_roundg k1
    case measure => have := HK1.out; omega
    case rel => exact ⟨(wrap64 (x3_1 + 1)), (x4_1 / 256), (by first | rfl | (simp; done) | (simp [*]; done)), (by first | rfl | (simp; done) | (simp [*]; done)), H', ⟨by have := HK1.out; omega⟩, ⟨by repeat (first | (with_reducible first | exact HB.out | apply below_alloc | apply pw_below_drewN | apply below_drew1) | exact HB.out)⟩⟩
   ·rw [if_neg c2] at H
    have c2b0 : decide (0 < x4_1) = false := decide_eq_false c2
    clear c2
    obtain ⟨ji3, hji3⟩ : ∃ j_ : Int, (wrap64 (1 + x3_1)) = j_ := ⟨_, rfl⟩
    replace H : (if 0 ≤ (ji3) then (if (ji3 : Int).toNat ≤ 281474976710656 then ((some (List.replicate (ji3 : Int).toNat 0 : List Int)).bind fun y101 => (if 0 < (y101.length : Int) then (tlv_Num.l1 k1 a0 (y101.set (0 : Int).toNat ((x3_1) % 256)) x3_1) else (none))) else (none)) else (none)) = some r := by first | (rw [hji3] at H; exact H) | (simp only [hji3] at H ⊢; exact H)
    have hji3w : (IntKind.i64.wrap (1 + x3_1)) = ji3 := (i64_w _).trans hji3
    by_cases c4 : 0 ≤ (ji3)
    ·rw [if_pos c4] at H
     have c4b0 := eq_true c4
     have c4b1 : decide (0 ≤ (ji3)) = true := decide_eq_true c4
     clear c4
     by_cases c5 : (ji3 : Int).toNat ≤ 281474976710656
     ·rw [if_pos c5] at H
      have c5b0 := eq_true c5
      have c5b1 : decide ((ji3 : Int).toNat ≤ 281474976710656) = true := decide_eq_true c5
      clear c5
      obtain ⟨y101, hy101⟩ : ∃ y_ : List Int, y_ = (List.replicate (ji3 : Int).toNat 0) := ⟨_, rfl⟩
      replace H : (if 0 < (y101.length : Int) then (tlv_Num.l1 k1 a0 (y101.set (0 : Int).toNat ((x3_1) % 256)) x3_1) else (none)) = some r := by first | (rw [hy101]; with_reducible exact H) | (have H2_ := (Option.bind_some _ _).symm.trans H; rw [hy101]; with_reducible exact H2_) | (have H2_ := (Option.bind_some _ _).symm.trans H; with_reducible exact H2_) | with_reducible exact H | (rw [hy101]; exact H) | exact H
      have Ny101 := Aside0.mk hy101
      clear hy101
      by_cases c6 : 0 < (y101.length : Int)
      ·rw [if_pos c6] at H
       have c6b0 : decide (0 < (y101.length : Int)) = true := decide_eq_true c6
       have c6b1 : decide (0 < y101.length) = true := decide_eq_true (by omega)
       clear c6
       obtain ⟨y104, hy104⟩ : ∃ y_ : List Int, y_ = (y101.set (0 : Int).toNat ((x3_1) % 256)) := ⟨_, rfl⟩
       replace H : (tlv_Num.l1 k1 a0 y104 x3_1) = some r := by first | (rw [hy104]; with_reducible exact H) | (have H2_ := (Option.bind_some _ _).symm.trans H; rw [hy104]; with_reducible exact H2_) | (have H2_ := (Option.bind_some _ _).symm.trans H; with_reducible exact H2_) | with_reducible exact H | (rw [hy104]; exact H) | exact H
       have Ny104 := Aside0.mk hy104
       clear hy104
       have H' := Aside0.mk H
       clear H
       go_wp2_with (first | ((with_reducible refine gate_dst (N := 16) rfl ?_); refine Kd.R_make (Kd.int .u8) _ 5 rfl (N := 16) rfl 27 _ _ rfl ji3 rfl rfl Try.underlying27 (.int .u8 0) 1 info5 rfl (by decide) (by omega) 0 (ok := fun _ => True) (okp := fun _ => True) rfl (fun _ hk => hk) trivial (of_decide_eq_true (by first | (with_reducible assumption) | assumption)) (Nat.le_trans (Nat.mul_le_mul_right _ (of_decide_eq_true (by first | (with_reducible assumption) | assumption) : ji3.toNat ≤ 281474976710656)) (by omega)) (Below.refl _ _) (Nat.le_refl _) ?_; intro v102 w8 ho9 hb hg_ hnew_; clear hg_ hnew_; (first | rw [← Ny101.out] at ho9 | (simp only [Int.reduceToNat] at ho9; rw [← Ny101.out] at ho9)); have n0_ := Aside0.mk (Kd.R_lower ho9 (below_size (by repeat (first | (with_reducible first | exact HB.out | apply below_alloc | apply pw_below_drewN | apply below_drew1) | exact HB.out)))); have n1_ := Aside0.mk (below_step (by repeat (first | (with_reducible first | exact HB.out | apply below_alloc | apply pw_below_drewN | apply below_drew1) | exact HB.out)) hb); clear HB; have HO103 := n0_; have HB := n1_; clear n0_ n1_; clear hb ho9; have p7 : 0 ≤ (0 : Int) := (by omega); have q7 : (0 : Int) < ((y101.length : Int) : Int) := of_decide_eq_true (by first | (with_reducible assumption) | assumption); have qi7 : (0 < y101.length) = True := eq_true (by omega); obtain ⟨go7, co7, eo7, gb7, gl7, cl7, HG7⟩ := Kd.R_form HO103.out (by omega); (first | cases eo7 | (injection eo7 with ea_ en_ ec_; (first | subst ea_ | (injection ea_ with ea_; subst ea_)); subst ec_; clear en_)); have GB7 := Aside0.mk gb7; have GG7 := Aside0.mk HG7; clear gb7 gl7 HG7; obtain ⟨hx7_0, hf7_0⟩ := Kd.R_celln 0 HO103.out (0 : Int) p7 q7; (try rw [show ((0 : Int)).toNat = 0 from rfl] at hx7_0); (try simp only [Nat.reduceMul, Nat.zero_mul, Nat.zero_add, Nat.reduceAdd] at hx7_0); (try rw [show ((0 : Int)).toNat = 0 from rfl] at hf7_0); (try simp only [Nat.reduceMul, Nat.zero_mul, Nat.zero_add, Nat.reduceAdd] at hf7_0); replace p7 := eq_true p7; replace q7 := eq_true q7; obtain ⟨hy10_, hz10_⟩ := Kd.R_celln 0 HO103.out (0 : Int) (by omega) (of_decide_eq_true (by first | (with_reducible assumption) | assumption)); (try simp only [Int.reduceToNat, Int.toNat_zero, Int.toNat_ofNat, Nat.reduceMul, Nat.zero_mul, Nat.zero_add] at hy10_ hz10_); (try rw [show ((0 : Int)).toNat = 0 from rfl] at hy10_); (try rw [show ((0 : Int)).toNat = 0 from rfl] at hz10_); have HP10 := Kd.R_putg HO103.out (0 : Int) ((x3_1) % 256)) | ((with_reducible refine gate_store (t := 5) (p := 20) rfl ?_); refine store_event (t := 5) (p := 20) (v := ?vo_w11) (w1 := (w8.setCell ⟨go7, (0 : Int).toNat, none⟩ (.int .u8 ((x3_1) % 256)))) ?hg ?ho ?hn ?hr ?_; (case ho => rfl); (case hg => rfl); (case hn => rfl); (case hr => first | (go_simp; done) | (go_simp; rfl)); intro w11 hw; have hg : w8.grownBy w11 (some go7) := (by rw [hw]; exact HP10.2); have hp_ : Kd.R (Kd.int .u8) 5 w11 w.heap.size (fun _ => True) (.slice (some ⟨go7, 0, none⟩) y101.length co7) y104 := (by rw [hw, Ny104.out]; exact HP10.1); clear HP10; have n0_ := Aside0.mk (hp_); have n1_ := Aside0.mk ((by rw [hw]; exact below_set (HB.out) GB7.out : Below w.heap.size w w11)); clear HO103; clear HB; have HO103 := n0_; have HB := n1_; clear n0_ n1_; clear hg hw hp_))
       go_loopg [0, 6] k1 (fun kq v0 v6 w' => ∃ (x0_2 : Int) (x5_2 : List Int) (x6_2 : Int), v0 = .int .u64 x0_2 ∧ v6 = .int .i64 x6_2 ∧ Aside0 (tlv_Num.l1 kq x0_2 x5_2 x6_2 = some r) ∧ Aside0 (kq ≤ k1) ∧ Aside0 (Kd.R (Kd.int .u8) 5 w' w.heap.size (fun _ => True) (.slice (some ⟨go7, 0, none⟩) y101.length co7) x5_2) ∧ Aside0 (Below w.heap.size w w'))
       case atStart => exact ⟨(a0), (y104), (x3_1), (by first | rfl | (simp; done) | (simp [*]; done)), (by first | rfl | (simp; done) | (simp [*]; done)), H', ⟨Nat.le_refl _⟩, ⟨by (with_reducible repeat (first | apply Kd.R_alloc | apply Kd.R_drewN | apply Kd.R_drew)); exact HO103.out⟩, ⟨by repeat (first | (with_reducible first | exact HB.out | apply below_alloc | apply pw_below_drewN | apply below_drew1) | exact HB.out)⟩⟩
       case round =>
        clear H'
        (try clear c1);(try clear c2);(try clear c2b0);(try clear p2);(try clear c4);(try clear c4b0);(try clear c4b1);(try clear c5);(try clear c5b0);(try clear c5b1);(try clear c6);(try clear c6b0);(try clear c6b1);(try clear p6);(try clear p7);(try clear q7);(try clear hx7);(try clear qi7);(try clear hf7);(try clear c10);(try clear hx7_0);(try clear p7);(try clear q7)
        obtain ⟨x0_2, x5_2, x6_2, rfl, rfl, HA, HK2, HO_5, HB⟩ := hrel
        have hl5_2 := (Kd.R_reads' HO_5.out).1
        rw [hl5_2] at HO_5
        (try simp only [hl5_2])
        cases gk with
        | zero => exact absurd HA.out (by simp [tlv_Num.l1])
        | succ k2 =>
         have H := HA.out
         clear HA
         simp only [tlv_Num.l1] at H
         by_cases c12 : x6_2 > 0
         ·rw [if_pos c12] at H
          have c12b0 : decide (0 < x6_2) = true := decide_eq_true c12
          clear c12
          by_cases c13 : 0 ≤ x6_2
          ·rw [if_pos c13] at H
           have c13b0 : decide (0 ≤ x6_2) = true := decide_eq_true c13
           clear c13
           by_cases c14 : x6_2 < (x5_2.length : Int)
           ·rw [if_pos c14] at H
            have c14b0 : decide (x6_2 < (x5_2.length : Int)) = true := decide_eq_true c14
            clear c14
            obtain ⟨y105, hy105⟩ : ∃ y_ : List Int, y_ = (x5_2.set (x6_2 : Int).toNat ((x0_2) % 256)) := ⟨_, rfl⟩
            replace H : (tlv_Num.l1 k2 (x0_2 / 256) y105 (wrap64 (x6_2 - 1))) = some r := by first | (rw [hy105]; with_reducible exact H) | (have H2_ := (Option.bind_some _ _).symm.trans H; rw [hy105]; with_reducible exact H2_) | (have H2_ := (Option.bind_some _ _).symm.trans H; with_reducible exact H2_) | with_reducible exact H | (rw [hy105]; exact H) | exact H
            have Ny105 := Aside0.mk hy105
            clear hy105
            have H' := Aside0.mk H
            clear H
            have p15 : 0 ≤ (x6_2 : Int) := of_decide_eq_true (by first | (with_reducible assumption) | assumption)
            have q15 : (x6_2 : Int) < ((x5_2.length : Int) : Int) := of_decide_eq_true (by first | (with_reducible assumption) | assumption)
            obtain ⟨hx15_0, hf15_0⟩ := Kd.R_celln 0 HO_5.out (x6_2 : Int) p15 q15
            replace p15 := eq_true p15
            replace q15 := eq_true q15
            have HP16 := Kd.R_putg HO_5.out (x6_2 : Int) ((x0_2) % 256)
            go_wp2_with (first | ((with_reducible refine gate_store (t := 5) (p := 30) rfl ?_); refine store_event (t := 5) (p := 30) (v := ?vo_w17) (w1 := (wr.setCell ⟨go7, (x6_2 : Int).toNat, none⟩ (.int .u8 ((x0_2) % 256)))) ?hg ?ho ?hn ?hr ?_; (case ho => rfl); (case hg => rfl); (case hn => rfl); (case hr => first | (go_simp; done) | (go_simp; rfl)); intro w17 hw; have hg : wr.grownBy w17 (some go7) := (by rw [hw]; exact HP16.2); have hp_ : Kd.R (Kd.int .u8) 5 w17 w.heap.size (fun _ => True) (.slice (some ⟨go7, 0, none⟩) x5_2.length co7) y105 := (by rw [hw, Ny105.out]; exact HP16.1); clear HP16; have n0_ := Aside0.mk (hp_); have n1_ := Aside0.mk ((by rw [hw]; exact below_set (HB.out) GB7.out : Below w.heap.size w w17)); clear HO_5; clear HB; have HO_5 := n0_; have HB := n1_; clear n0_ n1_; clear hg hw hp_))
            (try simp only [← hl5_2])
            go_roundg k2
            case measure => have := HK1.out; have := HK2.out; omega
            case rel => exact ⟨(x0_2 / 256), (y105), (wrap64 (x6_2 - 1)), (by first | rfl | (simp; done) | (simp [*]; done)), (by first | rfl | (simp; done) | (simp [*]; done)), H', ⟨by have := HK1.out; have := HK2.out; omega⟩, ⟨by (try simp only [hl5_2]); (with_reducible repeat (first | apply Kd.R_alloc | apply Kd.R_drewN | apply Kd.R_drew)); exact HO_5.out⟩, ⟨by repeat (first | (with_reducible first | exact HB.out | apply below_alloc | apply pw_below_drewN | apply below_drew1) | exact HB.out)⟩⟩
           ·rw [if_neg c14] at H
            exact absurd H (by simp)
          ·rw [if_neg c13] at H
           exact absurd H (by simp)
         ·rw [if_neg c12] at H
          have c12b0 : decide (0 < x6_2) = false := decide_eq_false c12
          clear c12
          obtain rfl := Option.some.inj H
          go_wp2
          go_ret
          exact ⟨_, by first | rfl | (simp [errW_none, errW_some] <;> rfl) | (simp only [← hji3]; first | rfl | (simp [errW_none, errW_some] <;> rfl)) | (simp [*, errW_none, errW_some] <;> rfl), by (with_reducible repeat (first | apply Kd.R_alloc | apply Kd.R_drewN | apply Kd.R_drew)); exact HO_5.out, by repeat (first | (with_reducible first | exact HB.out | apply below_alloc | apply pw_below_drewN | apply below_drew1) | exact HB.out)⟩
      ·rw [if_neg c6] at H
       exact absurd H (by simp)
     ·rw [if_neg c5] at H
      exact absurd H (by simp)
    ·rw [if_neg c4] at H
     exact absurd H (by simp)

end Go.Proofs.Ytgdpabedlghiaaa.PZ
-- printed for this claim by a program (pall.sh)
-- mended by fixpz.py
namespace Go.Proofs.Ytgdpabedlghiaaa.PZ
open Go.RowKit Go.Proofs.YtgdpabedlghiaaaW.PrintWords Go.Proofs.YtgdpabedlghiaaaW.PrintLast Go.Proofs.YtgdpabedlghiaaaW.PrintMore
attribute [local go_sem] max2_int min2_int max_two min_two max_three min_three max_four min_four   -- for this text's walks alone
set_option linter.unusedVariables false
set_option linter.unusedSimpArgs false

/-! ### tlv_Text: function 56 -/
def tlv_Text.f (k : Nat) (l0 : List Int) : Option (List Int) := (tlv_Num.f k (IntKind.u64.wrap ((l0.length : Int)))).bind fun t101 => (if t101.length + l0.length < 140737488355328 then (some (t101 ++ l0)) else (none))
set_option maxHeartbeats 8000000 in
set_option maxRecDepth 100000 in
theorem tlv_Text.calls (k : Nat) (A0 : Option Addr) (c0 : Nat) (l0 : List Int) (r : List Int) (w : World) (hr0 : Kd.C (Kd.int .u8) w A0 l0.length l0) (hc0 : l0.length ≤ c0) (h : tlv_Text.f k l0 = some r) :
  Calls Try.prog 56 #[.slice A0 l0.length c0] w fun e w' => ∃ v0_ : Value, e = .returned (v0_) ∧ Kd.R (Kd.int .u8) 5 w' w.heap.size (fun _ => True) v0_ r ∧ Below w.heap.size w w' := by
 have HR0 := Aside0.mk hr0
 have HC0 := Aside0.mk hc0
 clear hr0 hc0
 have HB := Aside0.mk (Below.refl w.heap.size w)
 have H : ((tlv_Num.f k (IntKind.u64.wrap ((l0.length : Int)))).bind fun t101 => (if t101.length + l0.length < 140737488355328 then (some (t101 ++ l0)) else (none))) = some r := h
 clear h
 replace H := Option.bind_eq_some_iff.mp H
 obtain ⟨t101, A20, H⟩ := H
 replace H : (if t101.length + l0.length < 140737488355328 then (some (t101 ++ l0)) else (none)) = some r := H
 have A2 := Aside0.mk A20
 clear A20
 by_cases c3 : t101.length + l0.length < 140737488355328
 ·rw [if_pos c3] at H
  have LMc3 := Aside0.mk c3
  clear c3
  obtain ⟨y104, hy104⟩ : ∃ y_ : List Int, y_ = (t101 ++ l0) := ⟨_, rfl⟩
  replace H : (some y104) = some r := by first | (rw [hy104]; with_reducible exact H) | (have H2_ := (Option.bind_some _ _).symm.trans H; rw [hy104]; with_reducible exact H2_) | (have H2_ := (Option.bind_some _ _).symm.trans H; with_reducible exact H2_) | with_reducible exact H | (rw [hy104]; exact H) | exact H
  have Ny104 := Aside0.mk hy104
  clear hy104
  obtain rfl := Option.some.inj H
  go_enter Try.func56, Try.ntmps56
  go_wp2_with (first | ((with_reducible refine gate_callee (f := 104) rfl ?_); refine goesL_ (some 6) rfl rfl Try.func104 (by kernel_rfl) rfl #[.int .u64 (IntKind.u64.wrap ((l0.length : Int)))] rfl (by (try simp only [List.map_toArray, List.map_cons, List.map_nil]); first | done | rfl | (simp only [List.length_drop, List.length_take]; rfl)) ?_; (with_reducible refine (tlv_Num.calls k (IntKind.u64.wrap ((l0.length : Int))) t101 _ A2.out).mono ?_); rintro e w4 ⟨v102, rfl, ho0, hb⟩; refine ⟨_, rfl, ?_⟩; have n0_ := Aside0.mk (Kd.R_lower ho0 (below_size (by repeat (first | (with_reducible first | exact HB.out | apply below_alloc | apply pw_below_drewN | apply below_drew1) | exact HB.out)))); have n1_ := Aside0.mk (below_step (by repeat (first | (with_reducible first | exact HB.out | apply below_alloc | apply pw_below_drewN | apply below_drew1) | exact HB.out)) hb); clear HB; have HO103 := n0_; have HB := n1_; clear n0_ n1_; (try clear hb); (try clear hb2); (try clear hk); (try clear hi); (try clear ho0)) | ((with_reducible refine gate_builtin (b := .append) (xs := #[.tmp 6, .tmp 7]) rfl ?_); at_builtin; refine Kd.R_append_rows (Kd.int .u8) (w0 := w) w.heap.size rfl (.tmp 6) (.tmp 7) 27 5 (.int .u8 0) 1 rfl Try.underlying27 info5 rfl (by decide) (by omega) v102 t101 l0 _ _ _ (fun _ => True) (fun _ => False) rfl rfl ?aO ?aR (fun _ _ h => h) (fun _ h => h.elim) ?aF ?aB ?aS ?aL ?_; (case aR => repeat (first | exact (Kd.C_below HR0.out HB.out) | (with_reducible refine Kd.C_alloc ?_ _) | (with_reducible refine Kd.C_drewN ?_ _) | (with_reducible refine Kd.C_drew ?_))); (case aB => exact (by repeat (first | (with_reducible first | exact HB.out | apply below_alloc | apply pw_below_drewN | apply below_drew1) | exact HB.out))); (case aF => exact (fun _ _ => trivial)); (case aO => exact (by (with_reducible repeat (first | apply Kd.R_alloc | apply Kd.R_drewN | apply Kd.R_drew)); exact HO103.out)); (case aS => exact (below_size (by repeat (first | (with_reducible first | exact HB.out | apply below_alloc | apply pw_below_drewN | apply below_drew1) | exact HB.out)))); (case aL => have := LMc3.out; omega); intro v105 w5 ho hb hg hat; rw [← Ny104.out] at ho; have n0_ := Aside0.mk (hb); have n1_ := Aside0.mk (ho); clear HB; clear HO103; have HB := n0_; have HO106 := n1_; clear n0_ n1_; clear ho hb hg hat))
  go_ret
  exact ⟨_, by first | rfl | (simp [errW_none, errW_some] <;> rfl) | (simp [*, errW_none, errW_some] <;> rfl), by (with_reducible repeat (first | apply Kd.R_alloc | apply Kd.R_drewN | apply Kd.R_drew)); exact HO106.out, by repeat (first | (with_reducible first | exact HB.out | apply below_alloc | apply pw_below_drewN | apply below_drew1) | exact HB.out)⟩
 ·rw [if_neg c3] at H
  exact absurd H (by simp)

end Go.Proofs.Ytgdpabedlghiaaa.PZ
-- printed for this claim by a program (pall.sh)
-- mended by fixpz.py
namespace Go.Proofs.Ytgdpabedlghiaaa.PZ
open Go.RowKit Go.Proofs.YtgdpabedlghiaaaW.PrintWords Go.Proofs.YtgdpabedlghiaaaW.PrintLast Go.Proofs.YtgdpabedlghiaaaW.PrintMore
attribute [local go_sem] max2_int min2_int max_two min_two max_three min_three max_four min_four   -- for this text's walks alone
set_option linter.unusedVariables false
set_option linter.unusedSimpArgs false

/-! ### tlv_Int: function 57 -/
def tlv_Int.f (k : Nat) (a0 : Int) : Option (List Int) := (tlv_Num.f k (IntKind.u64.wrap (a0))).bind fun t101 => (some t101)
set_option maxHeartbeats 8000000 in
set_option maxRecDepth 100000 in
theorem tlv_Int.calls (k : Nat) (a0 : Int) (r : List Int) (w : World) (h : tlv_Int.f k a0 = some r) :
  Calls Try.prog 57 #[.int .i64 a0] w fun e w' => ∃ v0_ : Value, e = .returned (v0_) ∧ Kd.R (Kd.int .u8) 5 w' w.heap.size (fun _ => True) v0_ r ∧ Below w.heap.size w w' := by
 have HB := Aside0.mk (Below.refl w.heap.size w)
 have H : ((tlv_Num.f k (IntKind.u64.wrap (a0))).bind fun t101 => (some t101)) = some r := h
 clear h
 replace H := Option.bind_eq_some_iff.mp H
 obtain ⟨t101, A20, H⟩ := H
 replace H : (some t101) = some r := H
 have A2 := Aside0.mk A20
 clear A20
 obtain rfl := Option.some.inj H
 go_enter Try.func57, Try.ntmps57
 go_wp2_with (first | ((with_reducible refine gate_callee (f := 104) rfl ?_); refine goesL_ (some 5) rfl rfl Try.func104 (by kernel_rfl) rfl #[.int .u64 (IntKind.u64.wrap (a0))] rfl (by (try simp only [List.map_toArray, List.map_cons, List.map_nil]); first | done | rfl | (simp only [List.length_drop, List.length_take]; rfl)) ?_; (with_reducible refine (tlv_Num.calls k (IntKind.u64.wrap (a0)) t101 _ A2.out).mono ?_); rintro e w3 ⟨v102, rfl, ho0, hb⟩; refine ⟨_, rfl, ?_⟩; have n0_ := Aside0.mk (Kd.R_lower ho0 (below_size (by repeat (first | (with_reducible first | exact HB.out | apply below_alloc | apply pw_below_drewN | apply below_drew1) | exact HB.out)))); have n1_ := Aside0.mk (below_step (by repeat (first | (with_reducible first | exact HB.out | apply below_alloc | apply pw_below_drewN | apply below_drew1) | exact HB.out)) hb); clear HB; have HO103 := n0_; have HB := n1_; clear n0_ n1_; (try clear hb); (try clear hb2); (try clear hk); (try clear hi); (try clear ho0)))
 go_ret
 exact ⟨_, by first | rfl | (simp [errW_none, errW_some] <;> rfl) | (simp [*, errW_none, errW_some] <;> rfl), by (with_reducible repeat (first | apply Kd.R_alloc | apply Kd.R_drewN | apply Kd.R_drew)); exact HO103.out, by repeat (first | (with_reducible first | exact HB.out | apply below_alloc | apply pw_below_drewN | apply below_drew1) | exact HB.out)⟩

end Go.Proofs.Ytgdpabedlghiaaa.PZ
-- printed for this claim by a program (pall.sh)
-- mended by fixpz.py
namespace Go.Proofs.Ytgdpabedlghiaaa.PZ
open Go.RowKit Go.Proofs.YtgdpabedlghiaaaW.PrintWords Go.Proofs.YtgdpabedlghiaaaW.PrintLast Go.Proofs.YtgdpabedlghiaaaW.PrintMore
attribute [local go_sem] max2_int min2_int max_two min_two max_three min_three max_four min_four   -- for this text's walks alone
set_option linter.unusedVariables false
set_option linter.unusedSimpArgs false

/-! ### tlv_All: function 55 -/
def tlv_All.l0 : Nat → List Int → List (List Int) → Int → Int → Option (List Int)
 | 0, _, _, _, _ => none
 | k + 1, x3, x6, x7, x8 => if x8 < x7 then (if 0 ≤ x8 then (if x8 < (x6.length : Int) then (if x3.length + (rd_L2 x6 x8).length < 140737488355328 then (tlv_All.l0 k (x3 ++ (rd_L2 x6 x8)) x6 x7 (wrap64 (x8 + 1))) else (none)) else (none)) else (none)) else (some x3)
def tlv_All.f (k : Nat) (l0 : List (List Int)) : Option (List Int) := tlv_All.l0 k ([] : List Int) l0 (l0.length : Int) 0
set_option maxHeartbeats 8000000 in
set_option maxRecDepth 100000 in
theorem tlv_All.calls (k : Nat) (A0 : Option Addr) (c0 : Nat) (l0 : List (List Int)) (r : List Int) (w : World) (hr0 : Kd.C (Kd.slice 5 (Kd.int .u8)) w A0 l0.length l0) (hc0 : l0.length ≤ c0) (h : tlv_All.f k l0 = some r) :
  Calls Try.prog 55 #[.slice A0 l0.length c0] w fun e w' => ∃ v0_ : Value, e = .returned (v0_) ∧ Kd.R (Kd.int .u8) 5 w' w.heap.size (fun _ => True) v0_ r ∧ Below w.heap.size w w' := by
 have HR0 := Aside0.mk hr0
 have HC0 := Aside0.mk hc0
 clear hr0 hc0
 have HB := Aside0.mk (Below.refl w.heap.size w)
 have H : (tlv_All.l0 k ([] : List Int) l0 (l0.length : Int) 0) = some r := h
 clear h
 have H' := Aside0.mk H
 clear H
 go_enter Try.func55, Try.ntmps55
 go_wp2
 go_loopg [3, 8] k (fun kq v3 v8 w' => ∃ (x3_1 : List Int) (x8_1 : Int), v8 = .int .i64 x8_1 ∧ Aside0 (tlv_All.l0 kq x3_1 l0 (l0.length : Int) x8_1 = some r) ∧ Aside0 (kq ≤ k) ∧ Aside0 (Kd.R (Kd.int .u8) 5 w' w.heap.size (fun _ => True) v3 x3_1) ∧ Aside0 (Below w.heap.size w w'))
 case atStart => exact ⟨(([] : List Int)), (0), (by first | rfl | (simp; done) | (simp [*]; done)), H', ⟨Nat.le_refl _⟩, ⟨by first | exact Kd.R_nil _ _ _ _ _ | exact Kd.N_nil _ _ _ _ _ | exact Kd.V_nil _ _ _ _ _ | exact Kd.Q_nil _ _ _ _ _ | exact Kd.S_nil _ _ _ _ _⟩, ⟨by repeat (first | (with_reducible first | exact HB.out | apply below_alloc | apply pw_below_drewN | apply below_drew1) | exact HB.out)⟩⟩
 case round =>
  clear H'
  obtain ⟨x3_1, x8_1, rfl, HA, HK1, HO_3, HB⟩ := hrel
  cases gk with
  | zero => exact absurd HA.out (by simp [tlv_All.l0])
  | succ k1 =>
   have H := HA.out
   clear HA
   simp only [tlv_All.l0] at H
   by_cases c2 : x8_1 < (l0.length : Int)
   ·rw [if_pos c2] at H
    have c2b0 : decide (x8_1 < (l0.length : Int)) = true := decide_eq_true c2
    clear c2
    by_cases c3 : 0 ≤ x8_1
    ·rw [if_pos c3] at H
     have c3b0 : decide (0 ≤ x8_1) = true := decide_eq_true c3
     clear c3
     by_cases c4 : x8_1 < (l0.length : Int)
     ·rw [if_pos c4] at H
      have c4b0 : decide (x8_1 < (l0.length : Int)) = true := decide_eq_true c4
      clear c4
      by_cases c5 : x3_1.length + (rd_L2 l0 x8_1).length < 140737488355328
      ·rw [if_pos c5] at H
       have LMc5 := Aside0.mk c5
       clear c5
       obtain ⟨y102, hy102⟩ : ∃ y_ : List Int, y_ = (x3_1 ++ (rd_L2 l0 x8_1)) := ⟨_, rfl⟩
       replace H : (tlv_All.l0 k1 y102 l0 (l0.length : Int) (wrap64 (x8_1 + 1))) = some r := by first | (rw [hy102]; with_reducible exact H) | (have H2_ := (Option.bind_some _ _).symm.trans H; rw [hy102]; with_reducible exact H2_) | (have H2_ := (Option.bind_some _ _).symm.trans H; with_reducible exact H2_) | with_reducible exact H | (rw [hy102]; exact H) | exact H
       have Ny102 := Aside0.mk hy102
       clear hy102
       have H' := Aside0.mk H
       clear H
       have p101 : 0 ≤ (x8_1 : Int) := of_decide_eq_true (by first | (with_reducible assumption) | assumption)
       have q101 : x8_1 < (l0.length : Int) := of_decide_eq_true (by first | (with_reducible assumption) | assumption)
       obtain ⟨ad101, A101_0, c101_0, e101, hx101_0, hl101_0, hi101_0⟩ := at_L2 HR0.out x8_1 p101 q101
       cases e101
       replace hx101_0 := (HB.out.cell (World.block_lt_of_cell? w _ hx101_0)).trans hx101_0
       have HR101_0 := Aside0.mk hi101_0
       have HC101_0 := Aside0.mk hl101_0
       clear hi101_0 hl101_0
       replace p101 := eq_true p101
       replace q101 := eq_true q101
       go_wp2_with (first | ((with_reducible refine gate_builtin (b := .append) (xs := #[.tmp 12, .tmp 13]) rfl ?_); at_builtin; refine Kd.R_append_rows (Kd.int .u8) (w0 := w) w.heap.size rfl (.tmp 12) (.tmp 13) 27 5 (.int .u8 0) 1 rfl Try.underlying27 info5 rfl (by decide) (by omega) u3 x3_1 (rd_L2 l0 x8_1) _ _ _ (fun _ => True) (fun _ => False) rfl rfl ?aO ?aR (fun _ _ h => h) (fun _ h => h.elim) ?aF ?aB ?aS ?aL ?_; (case aR => repeat (first | exact (Kd.C_below HR101_0.out HB.out) | (with_reducible refine Kd.C_alloc ?_ _) | (with_reducible refine Kd.C_drewN ?_ _) | (with_reducible refine Kd.C_drew ?_))); (case aB => exact (by repeat (first | (with_reducible first | exact HB.out | apply below_alloc | apply pw_below_drewN | apply below_drew1) | exact HB.out))); (case aF => exact (fun _ _ => trivial)); (case aO => exact (by (with_reducible repeat (first | apply Kd.R_alloc | apply Kd.R_drewN | apply Kd.R_drew)); exact HO_3.out)); (case aS => exact (below_size (by repeat (first | (with_reducible first | exact HB.out | apply below_alloc | apply pw_below_drewN | apply below_drew1) | exact HB.out)))); (case aL => have := LMc5.out; omega); intro v103 w6 ho hb hg hat; rw [← Ny102.out] at ho; have n0_ := Aside0.mk (hb); have n1_ := Aside0.mk (ho); clear HB; clear HO_3; have HB := n0_; have HO104 := n1_; clear n0_ n1_; clear ho hb hg hat))
       go_roundg k1
       case measure => have := HK1.out; omega
       case rel => exact ⟨(y102), (wrap64 (x8_1 + 1)), (by first | rfl | (simp; done) | (simp [*]; done)), H', ⟨by have := HK1.out; omega⟩, ⟨by (with_reducible repeat (first | apply Kd.R_alloc | apply Kd.R_drewN | apply Kd.R_drew)); exact HO104.out⟩, ⟨by repeat (first | (with_reducible first | exact HB.out | apply below_alloc | apply pw_below_drewN | apply below_drew1) | exact HB.out)⟩⟩
      ·rw [if_neg c5] at H
       exact absurd H (by simp)
     ·rw [if_neg c4] at H
      exact absurd H (by simp)
    ·rw [if_neg c3] at H
     exact absurd H (by simp)
   ·rw [if_neg c2] at H
    have c2b0 : decide (x8_1 < (l0.length : Int)) = false := decide_eq_false c2
    clear c2
    obtain rfl := Option.some.inj H
    go_wp2
    go_ret
    exact ⟨_, by first | rfl | (simp [errW_none, errW_some] <;> rfl) | (simp [*, errW_none, errW_some] <;> rfl), by (with_reducible repeat (first | apply Kd.R_alloc | apply Kd.R_drewN | apply Kd.R_drew)); exact HO_3.out, by repeat (first | (with_reducible first | exact HB.out | apply below_alloc | apply pw_below_drewN | apply below_drew1) | exact HB.out)⟩

end Go.Proofs.Ytgdpabedlghiaaa.PZ
-- printed for this claim by a program (pall.sh)
-- mended by fixpz.py
namespace Go.Proofs.Ytgdpabedlghiaaa.PZ
open Go.RowKit Go.Proofs.YtgdpabedlghiaaaW.PrintWords Go.Proofs.YtgdpabedlghiaaaW.PrintLast Go.Proofs.YtgdpabedlghiaaaW.PrintMore
attribute [local go_sem] max2_int min2_int max_two min_two max_three min_three max_four min_four   -- for this text's walks alone
set_option linter.unusedVariables false
set_option linter.unusedSimpArgs false

end Go.Proofs.Ytgdpabedlghiaaa.PZ
-- printed for this claim by a program (pall.sh)
-- mended by fixpz.py
namespace Go.Proofs.Ytgdpabedlghiaaa.PZ
open Go.RowKit Go.Proofs.YtgdpabedlghiaaaW.PrintWords Go.Proofs.YtgdpabedlghiaaaW.PrintLast Go.Proofs.YtgdpabedlghiaaaW.PrintMore
attribute [local go_sem] max2_int min2_int max_two min_two max_three min_three max_four min_four   -- for this text's walks alone
set_option linter.unusedVariables false
set_option linter.unusedSimpArgs false

end Go.Proofs.Ytgdpabedlghiaaa.PZ
-- printed for this claim by a program (pall.sh)
-- mended by fixpz.py
namespace Go.Proofs.Ytgdpabedlghiaaa.PZ
open Go.RowKit Go.Proofs.YtgdpabedlghiaaaW.PrintWords Go.Proofs.YtgdpabedlghiaaaW.PrintLast Go.Proofs.YtgdpabedlghiaaaW.PrintMore
attribute [local go_sem] max2_int min2_int max_two min_two max_three min_three max_four min_four   -- for this text's walks alone
set_option linter.unusedVariables false
set_option linter.unusedSimpArgs false

end Go.Proofs.Ytgdpabedlghiaaa.PZ
-- printed for this claim by a program (pall.sh)
-- mended by fixpz.py
namespace Go.Proofs.Ytgdpabedlghiaaa.PZ
open Go.RowKit Go.Proofs.YtgdpabedlghiaaaW.PrintWords Go.Proofs.YtgdpabedlghiaaaW.PrintLast Go.Proofs.YtgdpabedlghiaaaW.PrintMore
attribute [local go_sem] max2_int min2_int max_two min_two max_three min_three max_four min_four   -- for this text's walks alone
set_option linter.unusedVariables false
set_option linter.unusedSimpArgs false

/-! ### hanaperref01_Same: function 18 -/
def hanaperref01_Same.l0 : Nat → List Int → List Int → Int → Option (Bool)
 | 0, _, _, _ => none
 | k + 1, x0, x1, x5 => if x5 < (x0.length : Int) then (if 0 ≤ x5 then (if x5 < (x1.length : Int) then (if (rd x0 x5) = (rd x1 x5) then (hanaperref01_Same.l0 k x0 x1 (wrap64 (x5 + 1))) else (some false)) else (none)) else (none)) else (some true)
def hanaperref01_Same.f (k : Nat) (l0 : List Int) (l1 : List Int) : Option (Bool) := if (l0.length : Int) = (l1.length : Int) then (hanaperref01_Same.l0 k l0 l1 0) else (some false)
set_option maxHeartbeats 8000000 in
set_option maxRecDepth 100000 in
theorem hanaperref01_Same.calls (k : Nat) (A0 : Option Addr) (c0 : Nat) (l0 : List Int) (A1 : Option Addr) (c1 : Nat) (l1 : List Int) (r : Bool) (w : World) (hr0 : Kd.C (Kd.int .u8) w A0 l0.length l0) (hc0 : l0.length ≤ c0) (hr1 : Kd.C (Kd.int .u8) w A1 l1.length l1) (hc1 : l1.length ≤ c1) (h : hanaperref01_Same.f k l0 l1 = some r) :
  Calls Try.prog 18 #[.slice A0 l0.length c0, .slice A1 l1.length c1] w fun e w' => e = .returned (.bool r) ∧ Drawn0 w w' := by
 have HR0 := Aside0.mk hr0
 have HC0 := Aside0.mk hc0
 clear hr0 hc0
 have HR1 := Aside0.mk hr1
 have HC1 := Aside0.mk hc1
 clear hr1 hc1
 have H : (if (l0.length : Int) = (l1.length : Int) then (hanaperref01_Same.l0 k l0 l1 0) else (some false)) = some r := h
 clear h
 by_cases c3 : (l0.length : Int) = (l1.length : Int)
 ·rw [if_pos c3] at H
  have c3b0 : ((l0.length : Int) == (l1.length : Int)) = true := beq_iff_eq.mpr c3
  have c3b1 : ((l0.length : Int) != (l1.length : Int)) = false := bne_eq_false_iff_eq.mpr c3
  have c3b2 : (l0.length == l1.length) = true := by first | simpa using c3 | (simp at c3 ⊢; omega)
  clear c3
  have H' := Aside0.mk H
  clear H
  go_enter Try.func18, Try.ntmps18
  go_wp2
  repeat (go_quiet (fail); try go_wp2)
  go_loopg [5] k (fun kq v5 w' => ∃ (x5_1 : Int), v5 = .int .i64 x5_1 ∧ Aside0 (hanaperref01_Same.l0 kq l0 l1 x5_1 = some r) ∧ Aside0 (kq ≤ k) ∧ Drawn0 w w')
  case atStart => exact ⟨(0), (by first | rfl | (simp; done) | (simp [*]; done)), H', ⟨Nat.le_refl _⟩, by repeat (first | exact Drawn0.refl _ | apply Drawn0.step)⟩
  case round =>
   clear H'
   (try clear c1);(try clear p2);(try clear c3);(try clear c3b0);(try clear c3b1);(try clear c3b2)
   obtain ⟨x5_1, rfl, HA, HK1, ⟨m1, rfl⟩⟩ := hrel
   cases gk with
   | zero => exact absurd HA.out (by simp [hanaperref01_Same.l0])
   | succ k1 =>
    have H := HA.out
    clear HA
    simp only [hanaperref01_Same.l0] at H
    by_cases c4 : x5_1 < (l0.length : Int)
    ·rw [if_pos c4] at H
     have c4b0 : decide (x5_1 < (l0.length : Int)) = true := decide_eq_true c4
     clear c4
     by_cases c5 : 0 ≤ x5_1
     ·rw [if_pos c5] at H
      have c5b0 : decide (0 ≤ x5_1) = true := decide_eq_true c5
      clear c5
      by_cases c6 : x5_1 < (l1.length : Int)
      ·rw [if_pos c6] at H
       have c6b0 : decide (x5_1 < (l1.length : Int)) = true := decide_eq_true c6
       clear c6
       by_cases c7 : (rd l0 x5_1) = (rd l1 x5_1)
       ·rw [if_pos c7] at H
        have c7b0 : ((rd l0 x5_1) == (rd l1 x5_1)) = true := beq_iff_eq.mpr c7
        have c7b1 : ((rd l0 x5_1) != (rd l1 x5_1)) = false := bne_eq_false_iff_eq.mpr c7
        clear c7
        have H' := Aside0.mk H
        clear H
        have p101 : 0 ≤ (x5_1 : Int) := of_decide_eq_true (by first | (with_reducible assumption) | assumption)
        have q101 : x5_1 < (l0.length : Int) := of_decide_eq_true (by first | (with_reducible assumption) | assumption)
        obtain ⟨ad101, e101, hx101_0⟩ := Kd.at_int HR0.out x5_1 p101 q101
        cases e101
        replace p101 := eq_true p101
        replace q101 := eq_true q101
        have p102 : 0 ≤ (x5_1 : Int) := of_decide_eq_true (by first | (with_reducible assumption) | assumption)
        have q102 : x5_1 < (l1.length : Int) := of_decide_eq_true (by first | (with_reducible assumption) | assumption)
        obtain ⟨ad102, e102, hx102_0⟩ := Kd.at_int HR1.out x5_1 p102 q102
        cases e102
        replace p102 := eq_true p102
        replace q102 := eq_true q102
        go_wp2
        repeat (go_quiet (fail); try go_wp2)
        go_roundg k1
        case measure => have := HK1.out; omega
        case rel => exact ⟨(wrap64 (x5_1 + 1)), (by first | rfl | (simp; done) | (simp [*]; done)), H', ⟨by have := HK1.out; omega⟩, by repeat (first | exact Drawn0.refl _ | apply Drawn0.step)⟩
       ·rw [if_neg c7] at H
        have c7b0 : ((rd l0 x5_1) == (rd l1 x5_1)) = false := beq_eq_false_iff_ne.mpr c7
        have c7b1 : ((rd l0 x5_1) != (rd l1 x5_1)) = true := bne_iff_ne.mpr c7
        obtain rfl := Option.some.inj H
        have p101 : 0 ≤ (x5_1 : Int) := of_decide_eq_true (by first | (with_reducible assumption) | assumption)
        have q101 : x5_1 < (l0.length : Int) := of_decide_eq_true (by first | (with_reducible assumption) | assumption)
        obtain ⟨ad101, e101, hx101_0⟩ := Kd.at_int HR0.out x5_1 p101 q101
        cases e101
        replace p101 := eq_true p101
        replace q101 := eq_true q101
        have p102 : 0 ≤ (x5_1 : Int) := of_decide_eq_true (by first | (with_reducible assumption) | assumption)
        have q102 : x5_1 < (l1.length : Int) := of_decide_eq_true (by first | (with_reducible assumption) | assumption)
        obtain ⟨ad102, e102, hx102_0⟩ := Kd.at_int HR1.out x5_1 p102 q102
        cases e102
        replace p102 := eq_true p102
        replace q102 := eq_true q102
        go_wp2
        repeat (go_quiet (fail); try go_wp2)
        go_ret
        exact ⟨by first | rfl | (simp; done) | (simp [*]; done), by repeat (first | exact Drawn0.refl _ | apply Drawn0.step)⟩
      ·rw [if_neg c6] at H
       exact absurd H (by simp)
     ·rw [if_neg c5] at H
      exact absurd H (by simp)
    ·rw [if_neg c4] at H
     have c4b0 : decide (x5_1 < (l0.length : Int)) = false := decide_eq_false c4
     clear c4
     obtain rfl := Option.some.inj H
     go_wp2
     repeat (go_quiet (fail); try go_wp2)
     go_ret
     exact ⟨by first | rfl | (simp; done) | (simp [*]; done), by repeat (first | exact Drawn0.refl _ | apply Drawn0.step)⟩
 ·rw [if_neg c3] at H
  have c3b0 : ((l0.length : Int) == (l1.length : Int)) = false := beq_eq_false_iff_ne.mpr c3
  have c3b1 : ((l0.length : Int) != (l1.length : Int)) = true := bne_iff_ne.mpr c3
  have c3b2 : (l0.length == l1.length) = false := by first | simpa using c3 | (simp at c3 ⊢; omega)
  obtain rfl := Option.some.inj H
  go_enter Try.func18, Try.ntmps18
  go_wp2
  repeat (go_quiet (fail); try go_wp2)
  go_ret
  exact ⟨by first | rfl | (simp; done) | (simp [*]; done), by repeat (first | exact Drawn0.refl _ | apply Drawn0.step)⟩

end Go.Proofs.Ytgdpabedlghiaaa.PZ
-- printed for this claim by a program (pall.sh)
-- mended by fixpz.py
namespace Go.Proofs.Ytgdpabedlghiaaa.PZ
open Go.RowKit Go.Proofs.YtgdpabedlghiaaaW.PrintWords Go.Proofs.YtgdpabedlghiaaaW.PrintLast Go.Proofs.YtgdpabedlghiaaaW.PrintMore
attribute [local go_sem] max2_int min2_int max_two min_two max_three min_three max_four min_four   -- for this text's walks alone
set_option linter.unusedVariables false
set_option linter.unusedSimpArgs false

/-! ### hanaperref01_Copy: function 93 -/
def hanaperref01_Copy.f (l0 : List Int) : Option (List Int) := (some (([] : List Int) : List Int)).bind fun y101 => (if y101.length + l0.length < 140737488355328 then (some (y101 ++ l0)) else (none))
set_option maxHeartbeats 8000000 in
set_option maxRecDepth 100000 in
theorem hanaperref01_Copy.calls (A0 : Option Addr) (c0 : Nat) (l0 : List Int) (r : List Int) (w : World) (hr0 : Kd.C (Kd.int .u8) w A0 l0.length l0) (hc0 : l0.length ≤ c0) (h : hanaperref01_Copy.f l0 = some r) :
  Calls Try.prog 93 #[.slice A0 l0.length c0] w fun e w' => ∃ v0_ : Value, e = .returned (v0_) ∧ Kd.R (Kd.int .u8) 5 w' w.heap.size (fun _ => True) v0_ r ∧ Below w.heap.size w w' := by
 have HR0 := Aside0.mk hr0
 have HC0 := Aside0.mk hc0
 clear hr0 hc0
 have HB := Aside0.mk (Below.refl w.heap.size w)
 have H : ((some (([] : List Int) : List Int)).bind fun y101 => (if y101.length + l0.length < 140737488355328 then (some (y101 ++ l0)) else (none))) = some r := h
 clear h
 obtain ⟨y101, hy101⟩ : ∃ y_ : List Int, y_ = (([] : List Int)) := ⟨_, rfl⟩
 replace H : (if y101.length + l0.length < 140737488355328 then (some (y101 ++ l0)) else (none)) = some r := by first | (rw [hy101]; with_reducible exact H) | (have H2_ := (Option.bind_some _ _).symm.trans H; rw [hy101]; with_reducible exact H2_) | (have H2_ := (Option.bind_some _ _).symm.trans H; with_reducible exact H2_) | with_reducible exact H | (rw [hy101]; exact H) | exact H
 have Ny101 := Aside0.mk hy101
 clear hy101
 by_cases c2 : y101.length + l0.length < 140737488355328
 ·rw [if_pos c2] at H
  have LMc2 := Aside0.mk c2
  clear c2
  obtain ⟨y104, hy104⟩ : ∃ y_ : List Int, y_ = (y101 ++ l0) := ⟨_, rfl⟩
  replace H : (some y104) = some r := by first | (rw [hy104]; with_reducible exact H) | (have H2_ := (Option.bind_some _ _).symm.trans H; rw [hy104]; with_reducible exact H2_) | (have H2_ := (Option.bind_some _ _).symm.trans H; with_reducible exact H2_) | with_reducible exact H | (rw [hy104]; exact H) | exact H
  have Ny104 := Aside0.mk hy104
  clear hy104
  obtain rfl := Option.some.inj H
  go_enter Try.func93, Try.ntmps93
  go_wp2_with (first | ((with_reducible refine gate_dst (N := 3) rfl ?_); refine Kd.R_lit (Kd.int .u8) _ 5 ?hg (N := 3) ?hd (xs := ([] : List Int)) (inner := []) (ok := fun _ => True) (okp := fun _ => True) ?hr ?hp (fun _ hk => hk) trivial (Below.refl _ _) (Nat.le_refl _) (by simp) ?_; (case hd => rfl); (case hg => rfl); (case hr => first | (go_simp; done) | (go_simp; rfl)); (case hp => exact (Reps.none _ _)); intro v102 w3 ho4 hb hg_ hnew_; clear hg_ hnew_; (first | rw [← Ny101.out] at ho4 | (simp only [Int.reduceToNat] at ho4; rw [← Ny101.out] at ho4)); have n0_ := Aside0.mk (Kd.R_lower ho4 (below_size (by repeat (first | (with_reducible first | exact HB.out | apply below_alloc | apply pw_below_drewN | apply below_drew1) | exact HB.out)))); have n1_ := Aside0.mk (below_step (by repeat (first | (with_reducible first | exact HB.out | apply below_alloc | apply pw_below_drewN | apply below_drew1) | exact HB.out)) hb); clear HB; have HO103 := n0_; have HB := n1_; clear n0_ n1_; clear hb ho4) | ((with_reducible refine gate_builtin (b := .append) (xs := #[.tmp 3, .tmp 4]) rfl ?_); at_builtin; refine Kd.R_append_rows (Kd.int .u8) (w0 := w) w.heap.size rfl (.tmp 3) (.tmp 4) 27 5 (.int .u8 0) 1 rfl Try.underlying27 info5 rfl (by decide) (by omega) v102 y101 l0 _ _ _ (fun _ => True) (fun _ => False) rfl rfl ?aO ?aR (fun _ _ h => h) (fun _ h => h.elim) ?aF ?aB ?aS ?aL ?_; (case aR => repeat (first | exact (Kd.C_below HR0.out HB.out) | (with_reducible refine Kd.C_alloc ?_ _) | (with_reducible refine Kd.C_drewN ?_ _) | (with_reducible refine Kd.C_drew ?_))); (case aB => exact (by repeat (first | (with_reducible first | exact HB.out | apply below_alloc | apply pw_below_drewN | apply below_drew1) | exact HB.out))); (case aF => exact (fun _ _ => trivial)); (case aO => exact (by (with_reducible repeat (first | apply Kd.R_alloc | apply Kd.R_drewN | apply Kd.R_drew)); exact HO103.out)); (case aS => exact (below_size (by repeat (first | (with_reducible first | exact HB.out | apply below_alloc | apply pw_below_drewN | apply below_drew1) | exact HB.out)))); (case aL => have := LMc2.out; omega); intro v105 w5 ho hb hg hat; rw [← Ny104.out] at ho; have n0_ := Aside0.mk (hb); have n1_ := Aside0.mk (ho); clear HB; clear HO103; have HB := n0_; have HO106 := n1_; clear n0_ n1_; clear ho hb hg hat))
  go_ret
  exact ⟨_, by first | rfl | (simp [errW_none, errW_some] <;> rfl) | (simp [*, errW_none, errW_some] <;> rfl), by (with_reducible repeat (first | apply Kd.R_alloc | apply Kd.R_drewN | apply Kd.R_drew)); exact HO106.out, by repeat (first | (with_reducible first | exact HB.out | apply below_alloc | apply pw_below_drewN | apply below_drew1) | exact HB.out)⟩
 ·rw [if_neg c2] at H
  exact absurd H (by simp)

end Go.Proofs.Ytgdpabedlghiaaa.PZ
-- printed for this claim by a program (pall.sh)
-- mended by fixpz.py
namespace Go.Proofs.Ytgdpabedlghiaaa.PZ
open Go.RowKit Go.Proofs.YtgdpabedlghiaaaW.PrintWords Go.Proofs.YtgdpabedlghiaaaW.PrintLast Go.Proofs.YtgdpabedlghiaaaW.PrintMore
attribute [local go_sem] max2_int min2_int max_two min_two max_three min_three max_four min_four   -- for this text's walks alone
set_option linter.unusedVariables false
set_option linter.unusedSimpArgs false

/-! ### hanaperref01_Value: function 124 -/
def hanaperref01_Value.l0 : Nat → List Int → Int → Int → Option (Int)
 | 0, _, _, _ => none
 | k + 1, x0, x3, x4 => if x4 < (x0.length : Int) then (if 0 ≤ x4 then (hanaperref01_Value.l0 k x0 (IntKind.u64.wrap ((IntKind.u64.wrap (x3 * 256)) + (IntKind.u64.wrap (rd x0 x4)))) (wrap64 (x4 + 1))) else (none)) else (some x3)
def hanaperref01_Value.f (k : Nat) (l0 : List Int) : Option (Int) := hanaperref01_Value.l0 k l0 0 0
set_option maxHeartbeats 8000000 in
set_option maxRecDepth 100000 in
theorem hanaperref01_Value.calls (k : Nat) (A0 : Option Addr) (c0 : Nat) (l0 : List Int) (r : Int) (w : World) (hr0 : Kd.C (Kd.int .u8) w A0 l0.length l0) (hc0 : l0.length ≤ c0) (h : hanaperref01_Value.f k l0 = some r) :
  Calls Try.prog 124 #[.slice A0 l0.length c0] w fun e w' => e = .returned (.int .u64 r) ∧ Drawn0 w w' := by
 have HR0 := Aside0.mk hr0
 have HC0 := Aside0.mk hc0
 clear hr0 hc0
 have H : (hanaperref01_Value.l0 k l0 0 0) = some r := h
 clear h
 have H' := Aside0.mk H
 clear H
 go_enter Try.func124, Try.ntmps124
 go_wp2
 go_loopg [3, 4] k (fun kq v3 v4 w' => ∃ (x3_1 : Int) (x4_1 : Int), v3 = .int .u64 x3_1 ∧ v4 = .int .i64 x4_1 ∧ Aside0 (hanaperref01_Value.l0 kq l0 x3_1 x4_1 = some r) ∧ Aside0 (kq ≤ k) ∧ Drawn0 w w')
 case atStart => exact ⟨(0), (0), (by first | rfl | (simp; done) | (simp [*]; done)), (by first | rfl | (simp; done) | (simp [*]; done)), H', ⟨Nat.le_refl _⟩, by repeat (first | exact Drawn0.refl _ | apply Drawn0.step)⟩
 case round =>
  clear H'
  (try clear c1)
  obtain ⟨x3_1, x4_1, rfl, rfl, HA, HK1, ⟨m1, rfl⟩⟩ := hrel
  cases gk with
  | zero => exact absurd HA.out (by simp [hanaperref01_Value.l0])
  | succ k1 =>
   have H := HA.out
   clear HA
   simp only [hanaperref01_Value.l0] at H
   by_cases c2 : x4_1 < (l0.length : Int)
   ·rw [if_pos c2] at H
    have c2b0 : decide (x4_1 < (l0.length : Int)) = true := decide_eq_true c2
    clear c2
    by_cases c3 : 0 ≤ x4_1
    ·rw [if_pos c3] at H
     have c3b0 : decide (0 ≤ x4_1) = true := decide_eq_true c3
     clear c3
     have H' := Aside0.mk H
     clear H
     have p101 : 0 ≤ (x4_1 : Int) := of_decide_eq_true (by first | (with_reducible assumption) | assumption)
     have q101 : x4_1 < (l0.length : Int) := of_decide_eq_true (by first | (with_reducible assumption) | assumption)
     obtain ⟨ad101, e101, hx101_0⟩ := Kd.at_int HR0.out x4_1 p101 q101
     cases e101
     replace p101 := eq_true p101
     replace q101 := eq_true q101
     go_wp2
     go_roundg k1
     case measure => have := HK1.out; omega
     case rel => exact ⟨(IntKind.u64.wrap ((IntKind.u64.wrap (x3_1 * 256)) + (IntKind.u64.wrap (rd l0 x4_1)))), (wrap64 (x4_1 + 1)), (by first | rfl | (simp; done) | (simp [*]; done)), (by first | rfl | (simp; done) | (simp [*]; done)), H', ⟨by have := HK1.out; omega⟩, by repeat (first | exact Drawn0.refl _ | apply Drawn0.step)⟩
    ·rw [if_neg c3] at H
     exact absurd H (by simp)
   ·rw [if_neg c2] at H
    have c2b0 : decide (x4_1 < (l0.length : Int)) = false := decide_eq_false c2
    clear c2
    obtain rfl := Option.some.inj H
    go_wp2
    go_ret
    exact ⟨by first | rfl | (simp; done) | (simp [*]; done), by repeat (first | exact Drawn0.refl _ | apply Drawn0.step)⟩

end Go.Proofs.Ytgdpabedlghiaaa.PZ
/- What the lowest functions come to: numbers and texts as bytes, lists that are the same. -/
namespace Go.Proofs.Ytgdpabedlghiaaa.Lo
open Go.Proofs.Ytgdpabedlghiaaa.Base Go.Proofs.Ytgdpabedlghiaaa.TlvPlain Go.Proofs.Ytgdpabedlghiaaa.Aid Go.RowKit Go.Proofs.YtgdpabedlghiaaaW.PrintWords Go.Proofs.YtgdpabedlghiaaaW.PrintLast Go.Proofs.YtgdpabedlghiaaaW.PrintMore Go.Proofs.Ytgdpabedlghiaaa.PZ

/-- A number's bytes, the highest first. -/
def be (n : Nat) : List Int := if n = 0 then [] else be (n / 256) ++ [((n % 256 : Nat) : Int)]
termination_by n
decreasing_by omega
def numB (n : Int) : List Int := ((be n.toNat).length : Int) :: be n.toNat
def textB (l : List Int) : List Int := numB l.length ++ l
def intB (n : Int) : List Int := numB (IntKind.u64.wrap n)
theorem be_zero : be 0 = [] := by unfold be; rfl
theorem be_pos {n : Nat} (h : 0 < n) : be n = be (n / 256) ++ [((n % 256 : Nat) : Int)] := by
  rw [be, if_neg (by omega)]
theorem be_len {k : Nat} : ∀ {n : Nat}, n < 256 ^ k → (be n).length ≤ k := by
  induction k with
  | zero => intro n h; have : n = 0 := by omega
            subst this; rw [be_zero]; simp
  | succ k ih =>
    intro n h
    by_cases h0 : n = 0
    · subst h0; rw [be_zero]; simp
    · rw [be_pos (by omega), List.length_append, List.length_singleton]
      have := ih (n := n / 256) (by rw [Nat.pow_succ] at h; omega)
      omega
theorem be_len8 {n : Int} (h1 : n ≤ 18446744073709551615) : (be n.toNat).length ≤ 8 := be_len (by
  have : (256 : Nat) ^ 8 = 18446744073709551616 := by decide +kernel
  omega)
theorem numB_len {n : Int} (h1 : n ≤ 18446744073709551615) : (numB n).length ≤ 9 := by
  unfold numB; rw [List.length_cons]; have := be_len8 h1; omega
theorem u64_range (n : Int) : 0 ≤ IntKind.u64.wrap n ∧ IntKind.u64.wrap n ≤ 18446744073709551615 := by
  have : IntKind.u64.wrap n = n % 18446744073709551616 := by
    simp [IntKind.wrap, IntKind.signed, IntKind.bits]
  rw [this]; omega

/-! ### Num, as the program has it -/
theorem num_fill (w : Int) : ∀ (i m : Nat) (t : List Int), (be m).length = i → m ≤ 18446744073709551615 → i ≤ 8 →
    Ev (fun k => tlv_Num.l1 k (m : Int) (w :: (List.replicate i 0 ++ t)) (i : Int)) (w :: (be m ++ t)) := by
  intro i
  induction i with
  | zero =>
    intro m t hi hm h8
    refine Ev.step (fun k => by simp only [tlv_Num.l1]; rfl) ?_
    refine neg (by omega) (now ?_)
    have : be m = [] := List.length_eq_zero_iff.1 hi
    rw [this]; rfl
  | succ i ih =>
    intro m t hi hm h8
    have hm0 : 0 < m := by
      rcases Nat.eq_zero_or_pos m with h | h
      · subst h; rw [be_zero] at hi; cases hi
      · exact h
    have hb := be_pos hm0
    refine Ev.step (fun k => by simp only [tlv_Num.l1]; rfl) ?_
    refine pos (by omega) (pos (by omega) (pos (by simp; omega) ?_))
    have e1 : wrap64 (((i + 1 : Nat) : Int) - 1) = (i : Int) := by rw [w64 (by omega) (by omega)]; omega
    have e2 : ((m : Int) % 256) = ((m % 256 : Nat) : Int) := by omega
    have e3 : ((m : Int) / 256) = ((m / 256 : Nat) : Int) := by omega
    have e4 : (w :: (List.replicate (i + 1) 0 ++ t)).set (((i + 1 : Nat) : Int)).toNat ((m : Int) % 256) = w :: (List.replicate i 0 ++ (((m % 256 : Nat) : Int) :: t)) := by
      rw [Int.toNat_natCast, List.set_cons_succ, e2, List.replicate_succ']
      congr 1
      rw [List.append_assoc, List.set_append_right _ _ (by simp)]
      simp
    rw [e1, e3, e4]
    have := ih (m / 256) (((m % 256 : Nat) : Int) :: t) (by rw [hb] at hi; simpa using hi) (by omega) (by omega)
    rw [hb, List.append_assoc]
    exact this
theorem num_count (n : Int) (hn0 : 0 ≤ n) (hn1 : n ≤ 18446744073709551615) : ∀ (m c : Nat), c + (be m).length = (be n.toNat).length → m ≤ 18446744073709551615 →
    Ev (fun k => tlv_Num.l0 k n (c : Int) (m : Int)) (numB n) := by
  intro m
  induction m using Nat.strongRecOn with
  | ind m ih =>
    intro c hc hm
    have h8 := be_len8 hn1
    refine Ev.step (fun k => by simp only [tlv_Num.l0]; rfl) ?_
    by_cases h0 : m = 0
    · subst h0
      rw [be_zero] at hc
      simp only [List.length_nil, Nat.add_zero] at hc
      have e1 : wrap64 (1 + (c : Int)) = ((c + 1 : Nat) : Int) := by rw [w64 (by omega) (by omega)]; omega
      rw [e1, Int.toNat_natCast]
      refine neg (by omega) (pos (by omega) (pos (by omega) ?_))
      refine bindSome rfl (pos (by simp) ?_)
      have e2 : (List.replicate (c + 1) (0 : Int)).set ((0 : Int)).toNat ((c : Int) % 256) = (c : Int) :: (List.replicate c 0 ++ []) := by
        rw [List.replicate_succ, show ((0 : Int)).toNat = 0 from rfl, List.set_cons_zero, List.append_nil, Int.emod_eq_of_lt (by omega) (by omega)]
      rw [e2]
      obtain ⟨q, rfl⟩ := Int.eq_ofNat_of_zero_le hn0
      have := num_fill (c : Int) c q [] (by rw [hc]; rfl) (by omega) (by omega)
      unfold numB
      rw [Int.toNat_natCast] at hc ⊢
      rw [← hc]
      simpa using this
    · refine pos (by omega) ?_
      have hb := be_pos (show 0 < m by omega)
      rw [hb, List.length_append, List.length_singleton] at hc
      have e1 : wrap64 ((c : Int) + 1) = ((c + 1 : Nat) : Int) := by rw [w64 (by omega) (by omega)]; omega
      have e3 : ((m : Int) / 256) = ((m / 256 : Nat) : Int) := by omega
      rw [e1, e3]
      exact ih (m / 256) (by omega) (c + 1) (by omega) (by omega)
theorem num_ev (n : Int) (hn0 : 0 ≤ n) (hn1 : n ≤ 18446744073709551615) : Ev (fun k => tlv_Num.f k n) (numB n) := by
  have := num_count n hn0 hn1 n.toNat 0 (by omega) (by omega)
  rw [show ((n.toNat : Nat) : Int) = n from by omega] at this
  exact this
/-! ### texts and ints -/
theorem len_u64 (l : List Int) (h : l.length < 140737488355000) : IntKind.u64.wrap ((l.length : Nat) : Int) = l.length := u64 (by omega) (by omega)
theorem text_ev (l : List Int) (h : l.length < 140737488355000) : Ev (fun k => tlv_Text.f k l) (textB l) := by
  unfold tlv_Text.f
  rw [len_u64 l h]
  refine evBind (num_ev _ (by omega) (by omega)) (pos ?_ (now rfl))
  have := numB_len (n := (l.length : Int)) (by omega)
  omega
theorem int_ev (n : Int) : Ev (fun k => tlv_Int.f k n) (intB n) := by
  unfold tlv_Int.f
  exact evBind (num_ev _ (u64_range n).1 (u64_range n).2) (now rfl)
theorem all_loop (l : List (List Int)) (hl : l.length ≤ 4611686018427387904) (ht : l.flatten.length < 140737488355328) : ∀ (d i : Nat), i + d = l.length →
    Ev (fun k => tlv_All.l0 k (l.take i).flatten l (l.length : Int) (i : Int)) l.flatten := by
  intro d
  induction d with
  | zero =>
    intro i hi
    refine Ev.step (fun k => by simp only [tlv_All.l0]; rfl) ?_
    refine neg (by omega) (now ?_)
    rw [List.take_of_length_le (by omega)]
  | succ d ih =>
    intro i hi
    have hil : i < l.length := by omega
    refine Ev.step (fun k => by simp only [tlv_All.l0]; rfl) ?_
    have e : rd_L2 l (i : Int) = l[i] := by simp [rd_L2, List.getD_eq_getElem?_getD, List.getElem?_eq_getElem hil]
    have e2 : (l.take i).flatten ++ l[i] = (l.take (i + 1)).flatten := by rw [take_snoc l i hil, List.flatten_append]; simp
    rw [e, inc hil hl, e2]
    refine pos (by omega) (pos (by omega) (pos (by omega) (pos ?_ (ih (i + 1) (by omega)))))
    have h1 : (l.take i).flatten.length + l[i].length = (l.take (i + 1)).flatten.length := by rw [← e2, List.length_append]
    have h2 : l.flatten = (l.take (i + 1)).flatten ++ (l.drop (i + 1)).flatten := by rw [← List.flatten_append, List.take_append_drop]
    rw [h2, List.length_append] at ht
    omega
theorem all_ev (l : List (List Int)) (hl : l.length ≤ 4611686018427387904) (ht : l.flatten.length < 140737488355328) : Ev (fun k => tlv_All.f k l) l.flatten := by
  have := all_loop l hl ht l.length 0 (by omega)
  exact this
/-! ### lists that are the same -/
theorem same_from (a b : List Int) (hl : a.length = b.length) (hn : a.length ≤ 4611686018427387904) : ∀ (d i : Nat), i + d = a.length →
    Ev (fun k => hanaperref01_Same.l0 k a b i) (decide (a.drop i = b.drop i)) := by
  intro d
  induction d with
  | zero =>
    intro i hi
    refine Ev.step (fun k => by simp only [hanaperref01_Same.l0]; rfl) ?_
    refine neg (by omega) (now ?_)
    rw [List.drop_of_length_le (by omega), List.drop_of_length_le (by omega)]; simp
  | succ d ih =>
    intro i hi
    refine Ev.step (fun k => by simp only [hanaperref01_Same.l0]; rfl) ?_
    refine pos (by omega) (pos (by omega) (pos (by omega) ?_))
    rw [rd_nat a i (by omega), rd_nat b i (by omega), drop_cons a i (by omega), drop_cons b i (by omega), inc (show i < a.length by omega) hn]
    by_cases e : a[i]'(by omega) = b[i]'(by omega)
    · refine pos e ?_
      have := ih (i + 1) (by omega)
      generalize a.drop (i + 1) = A at this ⊢
      generalize b.drop (i + 1) = B at this ⊢
      simpa [e] using this
    · refine neg e (now ?_)
      generalize a.drop (i + 1) = A
      generalize b.drop (i + 1) = B
      simp [e]
theorem same_ev (a b : List Int) (hn : a.length ≤ 4611686018427387904) : Ev (fun k => hanaperref01_Same.f k a b) (decide (a = b)) := by
  unfold hanaperref01_Same.f
  by_cases e : a.length = b.length
  · refine pos (by omega) ?_
    simpa using same_from a b e hn a.length 0 (by omega)
  · refine neg (by omega) (now ?_)
    have : a ≠ b := fun h => e (by rw [h])
    simp [this]
theorem copy_ev (l : List Int) (h : l.length < 140737488355328) : hanaperref01_Copy.f l = some l := by
  unfold hanaperref01_Copy.f
  simp only [Option.bind_some]
  rw [if_pos (by simpa using h)]; rfl
theorem value_loop (l : List Int) (hu : U8 l) (h8 : l.length ≤ 8) : ∀ (d i : Nat), i + d = l.length →
    Ev (fun k => hanaperref01_Value.l0 k l (valueB (l.take i)) (i : Int)) (valueB l) := by
  intro d
  induction d with
  | zero =>
    intro i hi
    refine Ev.step (fun k => by simp only [hanaperref01_Value.l0]; rfl) ?_
    refine neg (by omega) (now ?_)
    rw [List.take_of_length_le (by omega)]
  | succ d ih =>
    intro i hi
    have hil : i < l.length := by omega
    refine Ev.step (fun k => by simp only [hanaperref01_Value.l0]; rfl) ?_
    refine pos (by omega) (pos (by omega) ?_)
    have h1 := valueB_u64 (hu.take i) (by rw [List.length_take]; omega)
    have h2 := valueB_u64 (hu.take (i + 1)) (by rw [List.length_take]; omega)
    have hx := hu _ (List.getElem_mem hil)
    have e2 := h2
    rw [take_snoc l i hil, valueB_snoc] at e2
    rw [rd_nat l i hil, inc hil (by omega), u64 (x := valueB (l.take i) * 256) (by omega) (by omega), u64 (x := l[i]) (by omega) (by omega), u64 (by omega) (by omega), ← valueB_snoc, ← take_snoc l i hil]
    exact ih (i + 1) (by omega)
theorem value_ev (l : List Int) (hu : U8 l) (h8 : l.length ≤ 8) : Ev (fun k => hanaperref01_Value.f k l) (valueB l) := by
  have := value_loop l hu h8 l.length 0 (by omega)
  exact this

/-- What is read as a number is just what is made of it. -/
theorem be_unique : ∀ (l : List Int), U8 l → (l = [] ∨ l.getD 0 0 ≠ 0) → be (valueB l).toNat = l := by
  have H : ∀ n (l : List Int), l.length = n → U8 l → (l = [] ∨ l.getD 0 0 ≠ 0) → be (valueB l).toNat = l := by
    intro n
    induction n with
    | zero =>
      intro l hl _ _
      have : l = [] := List.length_eq_zero_iff.1 hl
      subst this
      exact be_zero
    | succ n ih =>
      intro l hl hu hh
      have hne : l ≠ [] := by intro e; rw [e] at hl; cases hl
      have hd := List.dropLast_concat_getLast hne
      have hu1 : U8 l.dropLast := fun x hx => hu x ((List.dropLast_sublist l).subset hx)
      have hx := hu (l.getLast hne) (List.getLast_mem hne)
      have hr := valueB_range hu1
      have h0 : l.getD 0 0 ≠ 0 := hh.resolve_left hne
      have ih' := ih l.dropLast (by simp [hl]) hu1 (by
        by_cases e : l.dropLast = []
        · exact .inl e
        · right
          intro e2
          apply h0
          have := List.length_pos_iff.2 e
          rw [← hd, List.getD_eq_getElem?_getD, List.getElem?_append_left this, ← List.getD_eq_getElem?_getD]
          exact e2)
      have hpos : 0 < (valueB l).toNat := by
        rw [← hd, valueB_snoc]
        by_cases e : l.dropLast = []
        · rw [e] at hd ⊢
          rw [← hd] at h0
          have : l.getLast hne ≠ 0 := by simpa using h0
          simp only [valueB, List.foldl_nil]
          omega
        · have hv : valueB l.dropLast ≠ 0 := by
            intro e2
            rw [e2] at ih'
            rw [show (0 : Int).toNat = 0 from rfl, be_zero] at ih'
            exact e ih'.symm
          omega
      rw [be_pos hpos]
      have e1 : (valueB l).toNat / 256 = (valueB l.dropLast).toNat := by
        have : valueB l = valueB l.dropLast * 256 + l.getLast hne := by rw [← valueB_snoc, hd]
        omega
      have e2 : (((valueB l).toNat % 256 : Nat) : Int) = l.getLast hne := by
        have : valueB l = valueB l.dropLast * 256 + l.getLast hne := by rw [← valueB_snoc, hd]
        omega
      rw [e1, e2, ih', hd]
  exact fun l hu hh => H _ l rfl hu hh
theorem numO_back {b : List Int} (hu : U8 b) {m : Int} {r : List Int} (h : numO (some b) = (m, some r)) : b = numB m ++ r ∧ 0 ≤ m ∧ m ≤ 18446744073709551615 := by
  have hr := numO_range (st := some b) (fun _ e => by cases e; exact hu)
  rw [h] at hr
  refine ⟨?_, hr⟩
  cases b with
  | nil => simp [numO] at h
  | cons x t =>
    simp only [numO] at h
    have hx := hu.head
    by_cases h1 : x > 8
    · rw [if_pos h1] at h; simp at h
    rw [if_neg h1] at h
    by_cases h2 : (t.length : Int) < x
    · rw [if_pos h2] at h; simp at h
    rw [if_neg h2] at h
    by_cases h3 : 0 < x ∧ t.getD 0 0 = 0
    · rw [if_pos h3] at h; simp at h
    rw [if_neg h3] at h
    simp only [Prod.mk.injEq, Option.some.injEq] at h
    obtain ⟨rfl, rfl⟩ := h
    have hb := be_unique (t.take x.toNat) (hu.tail.take _) (by
      by_cases h0 : 0 < x
      · right
        intro e
        apply h3
        refine ⟨h0, ?_⟩
        cases t with
        | nil => simp
        | cons y t =>
          obtain ⟨q, hq⟩ : ∃ q, x.toNat = q + 1 := ⟨x.toNat - 1, by omega⟩
          rw [hq] at e
          simpa using e
      · left
        have : x.toNat = 0 := by omega
        rw [this]; rfl)
    unfold numB
    rw [hb, List.length_take, Nat.min_eq_left (by omega), List.cons_append, List.take_append_drop]
    congr 1
    omega
end Go.Proofs.Ytgdpabedlghiaaa.Lo
/- What was put is read, what was read is put: a reader in plain words. -/
namespace Go.Proofs.Ytgdpabedlghiaaa.RdPlain
open Go.RowKit Go.Proofs.Ytgdpabedlghiaaa.Base Go.Proofs.Ytgdpabedlghiaaa.TlvPlain Go.Proofs.Ytgdpabedlghiaaa.Lo Go.Proofs.YtgdpabedlghiaaaW.PrintWords
theorem count_none (m : Int) : countO none m = (0, none) := by unfold countO; split <;> rfl
theorem num_none : numO none = (0, none) := rfl
theorem count_back {b : List Int} (hu : U8 b) {most m : Int} {r : List Int} (h : countO (some b) most = (m, some r)) : b = numB m ++ r ∧ 0 ≤ m ∧ m ≤ most := by
  unfold countO at h
  split at h
  · cases h
  · next hc =>
    obtain ⟨h1, h2, _⟩ := numO_back hu h
    rw [h] at hc
    exact ⟨h1, h2, by simp at hc; omega⟩
theorem take_back {b : List Int} {n : Int} {t r : List Int} (h : takeO (some b) n = (t, some r)) : b = t ++ r ∧ (t.length : Int) = n := by
  simp only [takeO] at h
  split at h
  · next hc =>
    cases h
    exact ⟨(List.take_append_drop _ _).symm, by rw [List.length_take]; omega⟩
  · cases h
theorem text_back {b : List Int} (hu : U8 b) {most : Int} {t r : List Int} (h : textO (some b) most = (t, some r)) : b = textB t ++ r ∧ (t.length : Int) ≤ most := by
  unfold textO at h
  obtain ⟨m, s, hc⟩ : ∃ m s, countO (some b) most = (m, s) := ⟨_, _, rfl⟩
  rw [hc] at h
  cases s with
  | none => simp [takeO] at h
  | some s =>
    obtain ⟨h1, h2, h3⟩ := count_back hu hc
    obtain ⟨h4, h5⟩ := take_back h
    refine ⟨?_, by omega⟩
    rw [h1, h4, textB, h5, List.append_assoc]
theorem U8.right {a b : List Int} (h : U8 (a ++ b)) : U8 b := fun x hx => h x (List.mem_append_right _ hx)
theorem U8.left {a b : List Int} (h : U8 (a ++ b)) : U8 a := fun x hx => h x (List.mem_append_left _ hx)
theorem bytes_str {t : List Int} (hu : U8 t) : bytesOf (strOfNums t) = t := by
  unfold bytesOf
  rw [strOfNums_data, List.map_map]
  conv => rhs; rw [← List.map_id t]
  refine List.map_congr_left (fun x hx => ?_)
  have := hu x hx
  show (((UInt8.ofNat x.toNat).toNat : Nat) : Int) = x
  rw [UInt8.toNat_ofNat']
  omega
theorem countO_u8' {b : List Int} (hu : U8 b) {most m : Int} {r : List Int} (h : countO (some b) most = (m, some r)) : U8 r := by
  have := count_back hu h
  rw [this.1] at hu
  exact U8.right hu
theorem textO_u8' {b : List Int} (hu : U8 b) {most : Int} {t r : List Int} (h : textO (some b) most = (t, some r)) : U8 t ∧ U8 r := by
  have := text_back hu h
  rw [this.1] at hu
  exact ⟨U8.right (a := numB t.length) (by have := U8.left hu; unfold textB at this; exact this), U8.right hu⟩
/-- So many things, one behind the other. -/
def readK {α : Type} (rd : Option (List Int) → Option (α × List Int)) : Nat → Option (List Int) → Option (List α × Option (List Int))
  | 0, st => some ([], st)
  | n + 1, st => match rd st with
    | none => none
    | some (k, r) => match readK rd n (some r) with
      | none => none
      | some (ks, s) => some (k :: ks, s)
theorem readK_back {α : Type} {rd : Option (List Int) → Option (α × List Int)} {put : α → List Int} (ih : ∀ b x r, U8 b → rd (some b) = some (x, r) → b = put x ++ r ∧ U8 r) : ∀ (n : Nat) (b : List Int) (ks : List α) (r : List Int), U8 b → readK rd n (some b) = some (ks, some r) → ks.length = n ∧ b = (ks.map put).flatten ++ r ∧ U8 r
  | 0, b, ks, r, hu, h => by
    simp only [readK, Option.some.injEq, Prod.mk.injEq] at h
    obtain ⟨rfl, rfl⟩ := h
    exact ⟨rfl, rfl, hu⟩
  | n + 1, b, ks, r, hu, h => by
    rw [readK] at h
    cases hr : rd (some b) with
    | none => rw [hr] at h; cases h
    | some p =>
      obtain ⟨x, s⟩ := p
      rw [hr] at h
      dsimp only at h
      obtain ⟨e1, u1⟩ := ih b x s hu hr
      cases hk : readK rd n (some s) with
      | none => rw [hk] at h; cases h
      | some q =>
        obtain ⟨ks2, s2⟩ := q
        rw [hk] at h
        simp only [Option.some.injEq, Prod.mk.injEq] at h
        obtain ⟨rfl, rfl⟩ := h
        obtain ⟨l1, l2, l3⟩ := readK_back ih n s ks2 r u1 hk
        exact ⟨by rw [List.length_cons, l1], by rw [List.map_cons, List.flatten_cons, e1, l2, List.append_assoc], l3⟩
theorem readK_none {α : Type} {rd : Option (List Int) → Option (α × List Int)} (hn : rd none = none) {n : Nat} {ks : List α} {s : List Int} (hk : readK rd n none = some (ks, some s)) : False := by
  cases n with
  | zero => simp [readK] at hk
  | succ n => rw [readK, hn] at hk; cases hk
theorem readK_all {α : Type} {rd : Option (List Int) → Option (α × List Int)} {Pr : α → Prop} (ih : ∀ b x r, U8 b → rd (some b) = some (x, r) → Pr x ∧ U8 r) : ∀ (n : Nat) (b : List Int) (ks : List α) (s : Option (List Int)), U8 b → readK rd n (some b) = some (ks, s) → ∀ k ∈ ks, Pr k
  | 0, b, ks, s, hu, h => by
    simp only [readK, Option.some.injEq, Prod.mk.injEq] at h
    rw [← h.1]
    exact fun k hk => by cases hk
  | n + 1, b, ks, s, hu, h => by
    rw [readK] at h
    cases hr : rd (some b) with
    | none => rw [hr] at h; cases h
    | some p =>
      obtain ⟨x, s1⟩ := p
      rw [hr] at h
      dsimp only at h
      obtain ⟨e1, u1⟩ := ih b x s1 hu hr
      cases hk : readK rd n (some s1) with
      | none => rw [hk] at h; cases h
      | some q =>
        obtain ⟨ks2, s2⟩ := q
        rw [hk] at h
        simp only [Option.some.injEq, Prod.mk.injEq] at h
        obtain ⟨rfl, rfl⟩ := h
        intro k hk2
        rcases List.mem_cons.1 hk2 with rfl | hk2
        · exact e1
        · exact readK_all ih n s1 ks2 _ u1 hk k hk2
end Go.Proofs.Ytgdpabedlghiaaa.RdPlain
-- printed for this claim by a program (pall.sh)
-- mended by fixpz.py
namespace Go.Proofs.Ytgdpabedlghiaaa.PZ
open Go.RowKit Go.Proofs.YtgdpabedlghiaaaW.PrintWords Go.Proofs.YtgdpabedlghiaaaW.PrintLast Go.Proofs.YtgdpabedlghiaaaW.PrintMore
attribute [local go_sem] max2_int min2_int max_two min_two max_three min_three max_four min_four   -- for this text's walks alone
set_option linter.unusedVariables false
set_option linter.unusedSimpArgs false

/-! ### scope_kids: function 112 -/
def scope_kids.f (a0 : Int) : Option (Int × Int) := if a0 = 8 then (some (1, 1)) else (if a0 = 6 then (some (2, 24)) else (if a0 = 7 then (some (2, 24)) else (some (0, 0))))
set_option maxHeartbeats 8000000 in
set_option maxRecDepth 100000 in
theorem scope_kids.calls (a0 : Int) (r1 : Int) (r2 : Int) (w : World) (h : scope_kids.f a0 = some (r1, r2)) :
  Calls Try.prog 112 #[.int .i64 a0] w fun e w' => e = .returned (.tuple #[.int .i64 r1, .int .i64 r2]) ∧ Drawn0 w w' := by
 have H : (if a0 = 8 then (some (1, 1)) else (if a0 = 6 then (some (2, 24)) else (if a0 = 7 then (some (2, 24)) else (some (0, 0))))) = some (r1, r2) := h
 clear h
 by_cases c2 : a0 = 8
 ·rw [if_pos c2] at H
  have c2b0 : (a0 == 8) = true := beq_iff_eq.mpr c2
  have c2b1 : (a0 != 8) = false := bne_eq_false_iff_eq.mpr c2
  clear c2
  simp only [Option.some.injEq, Prod.mk.injEq] at H
  obtain ⟨rfl, rfl⟩ := H
  go_enter Try.func112, Try.ntmps112
  go_wp2
  go_ret2
  exact ⟨by first | rfl | (simp; done) | (simp [*]; done), by repeat (first | exact Drawn0.refl _ | apply Drawn0.step)⟩
 ·rw [if_neg c2] at H
  have c2b0 : (a0 == 8) = false := beq_eq_false_iff_ne.mpr c2
  have c2b1 : (a0 != 8) = true := bne_iff_ne.mpr c2
  by_cases c3 : a0 = 6
  ·rw [if_pos c3] at H
   have c3b0 : (a0 == 6) = true := beq_iff_eq.mpr c3
   have c3b1 : (a0 != 6) = false := bne_eq_false_iff_eq.mpr c3
   clear c3
   simp only [Option.some.injEq, Prod.mk.injEq] at H
   obtain ⟨rfl, rfl⟩ := H
   go_enter Try.func112, Try.ntmps112
   go_wp2
   go_ret2
   exact ⟨by first | rfl | (simp; done) | (simp [*]; done), by repeat (first | exact Drawn0.refl _ | apply Drawn0.step)⟩
  ·rw [if_neg c3] at H
   have c3b0 : (a0 == 6) = false := beq_eq_false_iff_ne.mpr c3
   have c3b1 : (a0 != 6) = true := bne_iff_ne.mpr c3
   by_cases c4 : a0 = 7
   ·rw [if_pos c4] at H
    have c4b0 : (a0 == 7) = true := beq_iff_eq.mpr c4
    have c4b1 : (a0 != 7) = false := bne_eq_false_iff_eq.mpr c4
    clear c4
    simp only [Option.some.injEq, Prod.mk.injEq] at H
    obtain ⟨rfl, rfl⟩ := H
    go_enter Try.func112, Try.ntmps112
    go_wp2
    go_ret2
    exact ⟨by first | rfl | (simp; done) | (simp [*]; done), by repeat (first | exact Drawn0.refl _ | apply Drawn0.step)⟩
   ·rw [if_neg c4] at H
    have c4b0 : (a0 == 7) = false := beq_eq_false_iff_ne.mpr c4
    have c4b1 : (a0 != 7) = true := bne_iff_ne.mpr c4
    simp only [Option.some.injEq, Prod.mk.injEq] at H
    obtain ⟨rfl, rfl⟩ := H
    go_enter Try.func112, Try.ntmps112
    go_wp2
    go_ret2
    exact ⟨by first | rfl | (simp; done) | (simp [*]; done), by repeat (first | exact Drawn0.refl _ | apply Drawn0.step)⟩

end Go.Proofs.Ytgdpabedlghiaaa.PZ
/- slices.IndexFunc, ContainsFunc over scopes: walked once for each function value (printed by gen_scope.py). -/
namespace Go.Proofs.Ytgdpabedlghiaaa.Scope
set_option linter.unusedVariables false
set_option linter.unusedSimpArgs false
open Go.RowKit Go.Proofs.YtgdpabedlghiaaaW.PrintWords Go.Proofs.YtgdpabedlghiaaaW.PrintLast Go.Proofs.YtgdpabedlghiaaaW.PrintMore Go.Proofs.Ytgdpabedlghiaaa.PZ
/-- The first of which it is said, its place; and what the asking leaves. -/
def runIdx {α σ : Type} (step : α → σ → Bool × σ) : List α → Nat → σ → Int × σ
 | [], _, s => (-1, s)
 | x :: xs, i, s => if (step x s).1 = true then ((i : Int), (step x s).2) else runIdx step xs (i + 1) (step x s).2
/-- Is it said of any? -/
def runAny {α σ : Type} (step : α → σ → Bool × σ) : List α → σ → Bool × σ
 | [], s => (false, s)
 | x :: xs, s => if (step x s).1 = true then (true, (step x s).2) else runAny step xs (step x s).2
theorem runIdx_any {α σ : Type} (step : α → σ → Bool × σ) : ∀ (xs : List α) (i : Nat) (s : σ), decide ((runIdx step xs i s).1 ≥ 0) = (runAny step xs s).1 ∧ (runIdx step xs i s).2 = (runAny step xs s).2
 | [], _, _ => ⟨rfl, rfl⟩
 | x :: xs, i, s => by
  unfold runIdx runAny
  by_cases h : (step x s).1 = true
  ·rw [if_pos h, if_pos h]
   exact ⟨decide_eq_true (by omega), rfl⟩
  ·rw [if_neg h, if_neg h]
   exact runIdx_any step xs (i + 1) _
theorem runAny_pure {α : Type} (p : α → Bool) : ∀ (xs : List α), runAny (fun x (_ : Unit) => (p x, ())) xs () = (xs.any p, ())
 | [] => rfl
 | x :: xs => by
  unfold runAny
  cases h : p x
  ·simp [h, runAny_pure p xs]
  ·simp [h]

set_option maxHeartbeats 2000000 in
set_option maxRecDepth 100000 in
theorem idx_m1 {σ : Type} (g0 : Nat) (step : S40 → σ → Bool × σ) (Inv : σ → World → Prop) (A : Option Addr) (xs : List S40) (c : Nat) (v0 : World) (hrow : Kd.C k40 v0 A xs.length xs) (hbase : ∀ s W, Inv s W → Below v0.heap.size v0 W)
  (hp : ∀ x ∈ xs, ∀ s W A4 c4, Inv s W → Kd.C k40 v0 A4 x.f4.length x.f4 → x.f4.length ≤ c4 → Calls Try.prog 71 #[.agg #[.int .i64 x.f0, .string x.f1, .int .i64 x.f2, .int .i64 x.f3, .slice A4 x.f4.length c4], .pointer (some ⟨g0, 0, none⟩)] W fun e w' => e = .returned (.bool (step x s).1) ∧ Inv (step x s).2 w')
  (s0 : σ) (w : World) (h0 : Inv s0 w) :
  Calls Try.prog 115 #[.slice A xs.length c, .func (.func 71) #[] #[.pointer (some ⟨g0, 0, none⟩)]] w fun e w' => e = .returned (.int .i64 (runIdx step xs 0 s0).1) ∧ Inv (runIdx step xs 0 s0).2 w' := by
 have HR := Aside0.mk hrow
 have HP := Aside0.mk hp
 have H0 := Aside0.mk h0
 have HM := Aside0.mk hrow.2.1
 have HBS := Aside0.mk hbase
 have hu38 := Try.underlying38
 have hu40 := Try.underlying40
 clear hrow hp h0 hbase
 go_enter Try.func115, Try.ntmps115
 go_wp2
 go_loopg [8] xs.length (fun gf s8 wx => ∃ (i : Nat) (s : σ), s8 = .int .i64 (i : Int) ∧ i + gf = xs.length ∧ Inv s wx ∧ runIdx step (xs.drop i) i s = runIdx step xs 0 s0)
 case atStart => exact ⟨0, s0, rfl, by omega, H0.out, rfl⟩
 case round =>
  obtain ⟨i, s, rfl, hi, hinv, hrun⟩ := hrel
  have HI := Aside0.mk hinv
  have HU := Aside0.mk hrun
  have HG := Aside0.mk hi
  clear hinv hrun hi
  by_cases hlt : i < xs.length
  ·have hl1 : decide ((i : Int) < (xs.length : Int)) = true := decide_eq_true (by omega)
   have hw1 : wrap64 ((i : Int) + 1) = ((i + 1 : Nat) : Int) := by rw [Aid.w64 (by omega) (by have := HM.out; omega)]; omega
   have HX := Aside0.mk (List.getElem_mem hlt)
   obtain ⟨ad, A4, c4, rfl, hx0, hx1, hx2, hx3, hx4, hl4, hi4⟩ := at_T40 HR.out (i : Int) (by omega) (by omega)
   have hrd : rd_T40 xs (i : Int) = xs[i] := by simp [rd_T40, List.getD_eq_getElem?_getD, List.getElem?_eq_getElem hlt]
   have hbm := HBS.out s wr HI.out
   replace hx0 := (hbm.cell (World.block_lt_of_cell? _ _ hx0)).trans hx0
   replace hx1 := (hbm.cell (World.block_lt_of_cell? _ _ hx1)).trans hx1
   replace hx2 := (hbm.cell (World.block_lt_of_cell? _ _ hx2)).trans hx2
   replace hx3 := (hbm.cell (World.block_lt_of_cell? _ _ hx3)).trans hx3
   replace hx4 := (hbm.cell (World.block_lt_of_cell? _ _ hx4)).trans hx4
   clear hbm
   rw [hrd] at hx0 hx1 hx2 hx3 hx4 hl4 hi4
   simp only [Int.toNat_natCast] at hx0 hx1 hx2 hx3 hx4
   have HC := Aside0.mk (HP.out xs[i] HX.out s wr A4 c4 HI.out hi4 hl4)
   have HD := Aside0.mk (List.drop_eq_getElem_cons hlt)
   obtain ⟨x, hx⟩ : ∃ x, xs[i] = x := ⟨_, rfl⟩
   rw [hx] at hx0 hx1 hx2 hx3 hx4 HC HD
   rw [HD.out, runIdx] at HU
   clear hx hrd hl4 hi4 HX HD
   have p1 : (0 : Int) ≤ (i : Int) := by omega
   have p2 : (i : Int) < (xs.length : Int) := by omega
   obtain ⟨b, hb⟩ : ∃ b, (step x s).1 = b := ⟨_, rfl⟩
   rw [hb] at HC HU
   clear hb
   cases b with
   | true =>
    rw [if_pos rfl] at HU
    go_wp2_with (go_at_call 71; refine HC.out.mono ?_; rintro e w' ⟨rfl, hv⟩; have HV := Aside0.mk hv; clear hv)
    go_ret
    rw [← HU.out]
    exact ⟨rfl, HV.out⟩
   | false =>
    rw [if_neg (by decide)] at HU
    go_wp2_with (go_at_call 71; refine HC.out.mono ?_; rintro e w' ⟨rfl, hv⟩; have HV := Aside0.mk hv; clear hv)
    go_roundg (xs.length - (i + 1))
    case measure => have := HG.out; omega
    case rel => exact ⟨i + 1, (step x s).2, by first | rfl | rw [hw1], by omega, HV.out, HU.out⟩
  ·have hl1 : decide ((i : Int) < (xs.length : Int)) = false := decide_eq_false (by omega)
   have HE := Aside0.mk (List.drop_eq_nil_of_le (show xs.length ≤ i by omega))
   rw [HE.out, runIdx] at HU
   go_wp2
   go_ret
   rw [← HU.out]
   exact ⟨rfl, HI.out⟩
set_option maxHeartbeats 1000000 in
theorem any_m1 {σ : Type} (g0 : Nat) (step : S40 → σ → Bool × σ) (Inv : σ → World → Prop) (A : Option Addr) (xs : List S40) (c : Nat) (v0 : World) (hrow : Kd.C k40 v0 A xs.length xs) (hbase : ∀ s W, Inv s W → Below v0.heap.size v0 W)
  (hp : ∀ x ∈ xs, ∀ s W A4 c4, Inv s W → Kd.C k40 v0 A4 x.f4.length x.f4 → x.f4.length ≤ c4 → Calls Try.prog 71 #[.agg #[.int .i64 x.f0, .string x.f1, .int .i64 x.f2, .int .i64 x.f3, .slice A4 x.f4.length c4], .pointer (some ⟨g0, 0, none⟩)] W fun e w' => e = .returned (.bool (step x s).1) ∧ Inv (step x s).2 w')
  (s0 : σ) (w : World) (h0 : Inv s0 w) :
  Calls Try.prog 72 #[.slice A xs.length c, .func (.func 71) #[] #[.pointer (some ⟨g0, 0, none⟩)]] w fun e w' => e = .returned (.bool (runAny step xs s0).1) ∧ Inv (runAny step xs s0).2 w' := by
 have HC := Aside0.mk (idx_m1 g0 step Inv A xs c v0 hrow hbase hp s0 w h0)
 have HB := Aside0.mk (runIdx_any step xs 0 s0)
 obtain ⟨r, hr⟩ : ∃ r, runIdx step xs 0 s0 = r := ⟨_, rfl⟩
 rw [hr] at HC HB
 rw [← HB.out.1, ← HB.out.2]
 clear hr hrow hp h0 HB hbase
 obtain ⟨j, s⟩ := r
 obtain ⟨b, hb⟩ : ∃ b, decide (j ≥ 0) = b := ⟨_, rfl⟩
 have hb2 : decide ((0 : Int) ≤ j) = b := hb
 rw [hb]
 go_enter Try.func72, Try.ntmps72
 go_wp2_with (go_at_call 115; refine HC.out.mono ?_; rintro e w' ⟨rfl, hv⟩; have HV := Aside0.mk hv; clear hv)
 go_ret
 exact ⟨rfl, HV.out⟩

set_option maxHeartbeats 2000000 in
set_option maxRecDepth 100000 in
theorem idx_m2 {σ : Type} (g0 : Nat) (step : S40 → σ → Bool × σ) (Inv : σ → World → Prop) (A : Option Addr) (xs : List S40) (c : Nat) (v0 : World) (hrow : Kd.C k40 v0 A xs.length xs) (hbase : ∀ s W, Inv s W → Below v0.heap.size v0 W)
  (hp : ∀ x ∈ xs, ∀ s W A4 c4, Inv s W → Kd.C k40 v0 A4 x.f4.length x.f4 → x.f4.length ≤ c4 → Calls Try.prog 73 #[.agg #[.int .i64 x.f0, .string x.f1, .int .i64 x.f2, .int .i64 x.f3, .slice A4 x.f4.length c4], .pointer (some ⟨g0, 0, none⟩)] W fun e w' => e = .returned (.bool (step x s).1) ∧ Inv (step x s).2 w')
  (s0 : σ) (w : World) (h0 : Inv s0 w) :
  Calls Try.prog 115 #[.slice A xs.length c, .func (.func 73) #[] #[.pointer (some ⟨g0, 0, none⟩)]] w fun e w' => e = .returned (.int .i64 (runIdx step xs 0 s0).1) ∧ Inv (runIdx step xs 0 s0).2 w' := by
 have HR := Aside0.mk hrow
 have HP := Aside0.mk hp
 have H0 := Aside0.mk h0
 have HM := Aside0.mk hrow.2.1
 have HBS := Aside0.mk hbase
 have hu38 := Try.underlying38
 have hu40 := Try.underlying40
 clear hrow hp h0 hbase
 go_enter Try.func115, Try.ntmps115
 go_wp2
 go_loopg [8] xs.length (fun gf s8 wx => ∃ (i : Nat) (s : σ), s8 = .int .i64 (i : Int) ∧ i + gf = xs.length ∧ Inv s wx ∧ runIdx step (xs.drop i) i s = runIdx step xs 0 s0)
 case atStart => exact ⟨0, s0, rfl, by omega, H0.out, rfl⟩
 case round =>
  obtain ⟨i, s, rfl, hi, hinv, hrun⟩ := hrel
  have HI := Aside0.mk hinv
  have HU := Aside0.mk hrun
  have HG := Aside0.mk hi
  clear hinv hrun hi
  by_cases hlt : i < xs.length
  ·have hl1 : decide ((i : Int) < (xs.length : Int)) = true := decide_eq_true (by omega)
   have hw1 : wrap64 ((i : Int) + 1) = ((i + 1 : Nat) : Int) := by rw [Aid.w64 (by omega) (by have := HM.out; omega)]; omega
   have HX := Aside0.mk (List.getElem_mem hlt)
   obtain ⟨ad, A4, c4, rfl, hx0, hx1, hx2, hx3, hx4, hl4, hi4⟩ := at_T40 HR.out (i : Int) (by omega) (by omega)
   have hrd : rd_T40 xs (i : Int) = xs[i] := by simp [rd_T40, List.getD_eq_getElem?_getD, List.getElem?_eq_getElem hlt]
   have hbm := HBS.out s wr HI.out
   replace hx0 := (hbm.cell (World.block_lt_of_cell? _ _ hx0)).trans hx0
   replace hx1 := (hbm.cell (World.block_lt_of_cell? _ _ hx1)).trans hx1
   replace hx2 := (hbm.cell (World.block_lt_of_cell? _ _ hx2)).trans hx2
   replace hx3 := (hbm.cell (World.block_lt_of_cell? _ _ hx3)).trans hx3
   replace hx4 := (hbm.cell (World.block_lt_of_cell? _ _ hx4)).trans hx4
   clear hbm
   rw [hrd] at hx0 hx1 hx2 hx3 hx4 hl4 hi4
   simp only [Int.toNat_natCast] at hx0 hx1 hx2 hx3 hx4
   have HC := Aside0.mk (HP.out xs[i] HX.out s wr A4 c4 HI.out hi4 hl4)
   have HD := Aside0.mk (List.drop_eq_getElem_cons hlt)
   obtain ⟨x, hx⟩ : ∃ x, xs[i] = x := ⟨_, rfl⟩
   rw [hx] at hx0 hx1 hx2 hx3 hx4 HC HD
   rw [HD.out, runIdx] at HU
   clear hx hrd hl4 hi4 HX HD
   have p1 : (0 : Int) ≤ (i : Int) := by omega
   have p2 : (i : Int) < (xs.length : Int) := by omega
   obtain ⟨b, hb⟩ : ∃ b, (step x s).1 = b := ⟨_, rfl⟩
   rw [hb] at HC HU
   clear hb
   cases b with
   | true =>
    rw [if_pos rfl] at HU
    go_wp2_with (go_at_call 73; refine HC.out.mono ?_; rintro e w' ⟨rfl, hv⟩; have HV := Aside0.mk hv; clear hv)
    go_ret
    rw [← HU.out]
    exact ⟨rfl, HV.out⟩
   | false =>
    rw [if_neg (by decide)] at HU
    go_wp2_with (go_at_call 73; refine HC.out.mono ?_; rintro e w' ⟨rfl, hv⟩; have HV := Aside0.mk hv; clear hv)
    go_roundg (xs.length - (i + 1))
    case measure => have := HG.out; omega
    case rel => exact ⟨i + 1, (step x s).2, by first | rfl | rw [hw1], by omega, HV.out, HU.out⟩
  ·have hl1 : decide ((i : Int) < (xs.length : Int)) = false := decide_eq_false (by omega)
   have HE := Aside0.mk (List.drop_eq_nil_of_le (show xs.length ≤ i by omega))
   rw [HE.out, runIdx] at HU
   go_wp2
   go_ret
   rw [← HU.out]
   exact ⟨rfl, HI.out⟩
set_option maxHeartbeats 1000000 in
theorem any_m2 {σ : Type} (g0 : Nat) (step : S40 → σ → Bool × σ) (Inv : σ → World → Prop) (A : Option Addr) (xs : List S40) (c : Nat) (v0 : World) (hrow : Kd.C k40 v0 A xs.length xs) (hbase : ∀ s W, Inv s W → Below v0.heap.size v0 W)
  (hp : ∀ x ∈ xs, ∀ s W A4 c4, Inv s W → Kd.C k40 v0 A4 x.f4.length x.f4 → x.f4.length ≤ c4 → Calls Try.prog 73 #[.agg #[.int .i64 x.f0, .string x.f1, .int .i64 x.f2, .int .i64 x.f3, .slice A4 x.f4.length c4], .pointer (some ⟨g0, 0, none⟩)] W fun e w' => e = .returned (.bool (step x s).1) ∧ Inv (step x s).2 w')
  (s0 : σ) (w : World) (h0 : Inv s0 w) :
  Calls Try.prog 72 #[.slice A xs.length c, .func (.func 73) #[] #[.pointer (some ⟨g0, 0, none⟩)]] w fun e w' => e = .returned (.bool (runAny step xs s0).1) ∧ Inv (runAny step xs s0).2 w' := by
 have HC := Aside0.mk (idx_m2 g0 step Inv A xs c v0 hrow hbase hp s0 w h0)
 have HB := Aside0.mk (runIdx_any step xs 0 s0)
 obtain ⟨r, hr⟩ : ∃ r, runIdx step xs 0 s0 = r := ⟨_, rfl⟩
 rw [hr] at HC HB
 rw [← HB.out.1, ← HB.out.2]
 clear hr hrow hp h0 HB hbase
 obtain ⟨j, s⟩ := r
 obtain ⟨b, hb⟩ : ∃ b, decide (j ≥ 0) = b := ⟨_, rfl⟩
 have hb2 : decide ((0 : Int) ≤ j) = b := hb
 rw [hb]
 go_enter Try.func72, Try.ntmps72
 go_wp2_with (go_at_call 115; refine HC.out.mono ?_; rintro e w' ⟨rfl, hv⟩; have HV := Aside0.mk hv; clear hv)
 go_ret
 exact ⟨rfl, HV.out⟩

set_option maxHeartbeats 2000000 in
set_option maxRecDepth 100000 in
theorem idx_may {σ : Type} (g0 g1 : Nat) (step : S40 → σ → Bool × σ) (Inv : σ → World → Prop) (A : Option Addr) (xs : List S40) (c : Nat) (v0 : World) (hrow : Kd.C k40 v0 A xs.length xs) (hbase : ∀ s W, Inv s W → Below v0.heap.size v0 W)
  (hp : ∀ x ∈ xs, ∀ s W A4 c4, Inv s W → Kd.C k40 v0 A4 x.f4.length x.f4 → x.f4.length ≤ c4 → Calls Try.prog 114 #[.agg #[.int .i64 x.f0, .string x.f1, .int .i64 x.f2, .int .i64 x.f3, .slice A4 x.f4.length c4], .pointer (some ⟨g0, 0, none⟩), .pointer (some ⟨g1, 0, none⟩)] W fun e w' => e = .returned (.bool (step x s).1) ∧ Inv (step x s).2 w')
  (s0 : σ) (w : World) (h0 : Inv s0 w) :
  Calls Try.prog 115 #[.slice A xs.length c, .func (.func 114) #[] #[.pointer (some ⟨g0, 0, none⟩), .pointer (some ⟨g1, 0, none⟩)]] w fun e w' => e = .returned (.int .i64 (runIdx step xs 0 s0).1) ∧ Inv (runIdx step xs 0 s0).2 w' := by
 have HR := Aside0.mk hrow
 have HP := Aside0.mk hp
 have H0 := Aside0.mk h0
 have HM := Aside0.mk hrow.2.1
 have HBS := Aside0.mk hbase
 have hu38 := Try.underlying38
 have hu40 := Try.underlying40
 clear hrow hp h0 hbase
 go_enter Try.func115, Try.ntmps115
 go_wp2
 go_loopg [8] xs.length (fun gf s8 wx => ∃ (i : Nat) (s : σ), s8 = .int .i64 (i : Int) ∧ i + gf = xs.length ∧ Inv s wx ∧ runIdx step (xs.drop i) i s = runIdx step xs 0 s0)
 case atStart => exact ⟨0, s0, rfl, by omega, H0.out, rfl⟩
 case round =>
  obtain ⟨i, s, rfl, hi, hinv, hrun⟩ := hrel
  have HI := Aside0.mk hinv
  have HU := Aside0.mk hrun
  have HG := Aside0.mk hi
  clear hinv hrun hi
  by_cases hlt : i < xs.length
  ·have hl1 : decide ((i : Int) < (xs.length : Int)) = true := decide_eq_true (by omega)
   have hw1 : wrap64 ((i : Int) + 1) = ((i + 1 : Nat) : Int) := by rw [Aid.w64 (by omega) (by have := HM.out; omega)]; omega
   have HX := Aside0.mk (List.getElem_mem hlt)
   obtain ⟨ad, A4, c4, rfl, hx0, hx1, hx2, hx3, hx4, hl4, hi4⟩ := at_T40 HR.out (i : Int) (by omega) (by omega)
   have hrd : rd_T40 xs (i : Int) = xs[i] := by simp [rd_T40, List.getD_eq_getElem?_getD, List.getElem?_eq_getElem hlt]
   have hbm := HBS.out s wr HI.out
   replace hx0 := (hbm.cell (World.block_lt_of_cell? _ _ hx0)).trans hx0
   replace hx1 := (hbm.cell (World.block_lt_of_cell? _ _ hx1)).trans hx1
   replace hx2 := (hbm.cell (World.block_lt_of_cell? _ _ hx2)).trans hx2
   replace hx3 := (hbm.cell (World.block_lt_of_cell? _ _ hx3)).trans hx3
   replace hx4 := (hbm.cell (World.block_lt_of_cell? _ _ hx4)).trans hx4
   clear hbm
   rw [hrd] at hx0 hx1 hx2 hx3 hx4 hl4 hi4
   simp only [Int.toNat_natCast] at hx0 hx1 hx2 hx3 hx4
   have HC := Aside0.mk (HP.out xs[i] HX.out s wr A4 c4 HI.out hi4 hl4)
   have HD := Aside0.mk (List.drop_eq_getElem_cons hlt)
   obtain ⟨x, hx⟩ : ∃ x, xs[i] = x := ⟨_, rfl⟩
   rw [hx] at hx0 hx1 hx2 hx3 hx4 HC HD
   rw [HD.out, runIdx] at HU
   clear hx hrd hl4 hi4 HX HD
   have p1 : (0 : Int) ≤ (i : Int) := by omega
   have p2 : (i : Int) < (xs.length : Int) := by omega
   obtain ⟨b, hb⟩ : ∃ b, (step x s).1 = b := ⟨_, rfl⟩
   rw [hb] at HC HU
   clear hb
   cases b with
   | true =>
    rw [if_pos rfl] at HU
    go_wp2_with (go_at_call 114; refine HC.out.mono ?_; rintro e w' ⟨rfl, hv⟩; have HV := Aside0.mk hv; clear hv)
    go_ret
    rw [← HU.out]
    exact ⟨rfl, HV.out⟩
   | false =>
    rw [if_neg (by decide)] at HU
    go_wp2_with (go_at_call 114; refine HC.out.mono ?_; rintro e w' ⟨rfl, hv⟩; have HV := Aside0.mk hv; clear hv)
    go_roundg (xs.length - (i + 1))
    case measure => have := HG.out; omega
    case rel => exact ⟨i + 1, (step x s).2, by first | rfl | rw [hw1], by omega, HV.out, HU.out⟩
  ·have hl1 : decide ((i : Int) < (xs.length : Int)) = false := decide_eq_false (by omega)
   have HE := Aside0.mk (List.drop_eq_nil_of_le (show xs.length ≤ i by omega))
   rw [HE.out, runIdx] at HU
   go_wp2
   go_ret
   rw [← HU.out]
   exact ⟨rfl, HI.out⟩
set_option maxHeartbeats 1000000 in
theorem any_may {σ : Type} (g0 g1 : Nat) (step : S40 → σ → Bool × σ) (Inv : σ → World → Prop) (A : Option Addr) (xs : List S40) (c : Nat) (v0 : World) (hrow : Kd.C k40 v0 A xs.length xs) (hbase : ∀ s W, Inv s W → Below v0.heap.size v0 W)
  (hp : ∀ x ∈ xs, ∀ s W A4 c4, Inv s W → Kd.C k40 v0 A4 x.f4.length x.f4 → x.f4.length ≤ c4 → Calls Try.prog 114 #[.agg #[.int .i64 x.f0, .string x.f1, .int .i64 x.f2, .int .i64 x.f3, .slice A4 x.f4.length c4], .pointer (some ⟨g0, 0, none⟩), .pointer (some ⟨g1, 0, none⟩)] W fun e w' => e = .returned (.bool (step x s).1) ∧ Inv (step x s).2 w')
  (s0 : σ) (w : World) (h0 : Inv s0 w) :
  Calls Try.prog 72 #[.slice A xs.length c, .func (.func 114) #[] #[.pointer (some ⟨g0, 0, none⟩), .pointer (some ⟨g1, 0, none⟩)]] w fun e w' => e = .returned (.bool (runAny step xs s0).1) ∧ Inv (runAny step xs s0).2 w' := by
 have HC := Aside0.mk (idx_may g0 g1 step Inv A xs c v0 hrow hbase hp s0 w h0)
 have HB := Aside0.mk (runIdx_any step xs 0 s0)
 obtain ⟨r, hr⟩ : ∃ r, runIdx step xs 0 s0 = r := ⟨_, rfl⟩
 rw [hr] at HC HB
 rw [← HB.out.1, ← HB.out.2]
 clear hr hrow hp h0 HB hbase
 obtain ⟨j, s⟩ := r
 obtain ⟨b, hb⟩ : ∃ b, decide (j ≥ 0) = b := ⟨_, rfl⟩
 have hb2 : decide ((0 : Int) ≤ j) = b := hb
 rw [hb]
 go_enter Try.func72, Try.ntmps72
 go_wp2_with (go_at_call 115; refine HC.out.mono ?_; rintro e w' ⟨rfl, hv⟩; have HV := Aside0.mk hv; clear hv)
 go_ret
 exact ⟨rfl, HV.out⟩
end Go.Proofs.Ytgdpabedlghiaaa.Scope
/- scope.Match walked (printed by gen_hscope.py). -/
namespace Go.Proofs.Ytgdpabedlghiaaa.Scope
set_option linter.unusedVariables false
set_option linter.unusedSimpArgs false
open Go.RowKit Go.Proofs.YtgdpabedlghiaaaW.PrintWords Go.Proofs.YtgdpabedlghiaaaW.PrintLast Go.Proofs.YtgdpabedlghiaaaW.PrintMore Go.Proofs.Ytgdpabedlghiaaa.PZ
/-- A block's cells. -/
def Blk (w : World) (g T : Nat) (cs : Array Value) : Prop := w.heap[g]? = some (.cells cs T (0, 0))
theorem Blk.below {w w' : World} {g T : Nat} {cs : Array Value} (h : Blk w g T cs) (hb : Below w.heap.size w w') : Blk w' g T cs := blk_below h hb
theorem Blk.alloc {w : World} {g T : Nat} {cs : Array Value} (h : Blk w g T cs) (o : Obj) : Blk (w.alloc o) g T cs := blk_alloc h o
theorem Blk.lt {w : World} {g T : Nat} {cs : Array Value} (h : Blk w g T cs) : g < w.heap.size := by
 unfold Blk at h
 exact (Array.getElem?_eq_some_iff.1 h).1
theorem Blk.cell {w : World} {g T : Nat} {cs : Array Value} (h : Blk w g T cs) (j : Nat) : w.cell? ⟨g, j, none⟩ = cs[j]? := blk_cell h j
theorem blk3 (w : World) (a b o : Obj) : (((w.alloc a).alloc b).alloc o).heap[w.heap.size + 1 + 1]? = some o := by
 have h := blk_new ((w.alloc a).alloc b) o
 simpa using h
theorem blk2 (w : World) (a o : Obj) : ((w.alloc a).alloc o).heap[w.heap.size + 1]? = some o := by
 have h := blk_new (w.alloc a) o
 simpa using h
theorem kid_lt {x k : S40} (h : k ∈ x.f4) : SizeOf.sizeOf k < SizeOf.sizeOf x := by
 have h1 := List.sizeOf_lt_of_mem h
 cases x
 simp at h1 ⊢
 omega
mutual
/-- Which records a scope matches. -/
def matchB (q1 q2 q3 : ByteArray) (t : Int) : S40 → Bool
 | ⟨op, nm, fr, to_, kids⟩ => if op = 1 then true else if op = 2 then q1.toList == nm.toList else if op = 3 then q2.toList == nm.toList else if op = 4 then q3.toList == nm.toList else if op = 5 then decide (fr ≤ t) && decide (t ≤ to_) else if op = 7 then anyB q1 q2 q3 t kids else if op = 6 then !(exB q1 q2 q3 t kids) else if op = 8 then notB q1 q2 q3 t kids else false
def anyB (q1 q2 q3 : ByteArray) (t : Int) : List S40 → Bool
 | [] => false
 | k :: ks => matchB q1 q2 q3 t k || anyB q1 q2 q3 t ks
def exB (q1 q2 q3 : ByteArray) (t : Int) : List S40 → Bool
 | [] => false
 | k :: ks => !matchB q1 q2 q3 t k || exB q1 q2 q3 t ks
def notB (q1 q2 q3 : ByteArray) (t : Int) : List S40 → Bool
 | [] => true
 | k :: _ => !matchB q1 q2 q3 t k
end
theorem anyB_eq (q1 q2 q3 : ByteArray) (t : Int) : ∀ ks, anyB q1 q2 q3 t ks = ks.any (matchB q1 q2 q3 t)
 | [] => by simp [anyB]
 | k :: ks => by rw [anyB, anyB_eq q1 q2 q3 t ks, List.any_cons]
theorem exB_eq (q1 q2 q3 : ByteArray) (t : Int) : ∀ ks, exB q1 q2 q3 t ks = ks.any (fun k => !matchB q1 q2 q3 t k)
 | [] => by simp [exB]
 | k :: ks => by rw [exB, exB_eq q1 q2 q3 t ks, List.any_cons]
/-- What is known of Match at a scope. -/
def MatchC (q0 q1 q2 q3 : ByteArray) (t u : Int) (x : S40) : Prop := ∀ A c w, Kd.C k40 w A x.f4.length x.f4 → x.f4.length ≤ c →
 Calls Try.prog 29 #[.agg #[.int .i64 x.f0, .string x.f1, .int .i64 x.f2, .int .i64 x.f3, .slice A x.f4.length c], .agg #[.string q0, .string q1, .string q2, .string q3, .int .i64 t, .int .i64 u]] w fun e w' => e = .returned (.bool (matchB q1 q2 q3 t x)) ∧ Below w.heap.size w w'
set_option maxHeartbeats 1000000 in
set_option maxRecDepth 100000 in
theorem m1_c {q0 q1 q2 q3 : ByteArray} {t u : Int} {x : S40} (hm : MatchC q0 q1 q2 q3 t u x) (g : Nat) (A : Option Addr) (c : Nat) (w : World) (hg : Blk w g 46 #[.string q0, .string q1, .string q2, .string q3, .int .i64 t, .int .i64 u]) (hr : Kd.C k40 w A x.f4.length x.f4) (hc : x.f4.length ≤ c) :
  Calls Try.prog 71 #[.agg #[.int .i64 x.f0, .string x.f1, .int .i64 x.f2, .int .i64 x.f3, .slice A x.f4.length c], .pointer (some ⟨g, 0, none⟩)] w fun e w' => e = .returned (.bool (matchB q1 q2 q3 t x)) ∧ Below w.heap.size w w' := by
 have HG := Aside0.mk (hg.alloc (.cells #[.int .i64 x.f0, .string x.f1, .int .i64 x.f2, .int .i64 x.f3, .slice A x.f4.length c] 40))
 have HB := Aside0.mk (below_alloc (Below.refl w.heap.size w) (.cells #[.int .i64 x.f0, .string x.f1, .int .i64 x.f2, .int .i64 x.f3, .slice A x.f4.length c] 40))
 have HC := Aside0.mk (fun W h => hm A c W h hc)
 have HR := Aside0.mk hr
 have hu46 := Try.underlying46
 have hu40 := Try.underlying40
 have d0 := HG.out.cell 0
 have d1 := HG.out.cell 1
 have d2 := HG.out.cell 2
 have d3 := HG.out.cell 3
 have d4 := HG.out.cell 4
 have d5 := HG.out.cell 5
 simp only [List.getElem?_toArray, List.getElem?_cons_zero, List.getElem?_cons_succ] at d0 d1 d2 d3 d4 d5
 obtain ⟨b, hb⟩ : ∃ b, matchB q1 q2 q3 t x = b := ⟨_, rfl⟩
 rw [hb] at HC ⊢
 clear hm hg hr hc hb
 go_enter Try.func71, Try.ntmps71
 go_wp2_with (go_at_call 29; refine (HC.out _ (Kd.C_below HR.out HB.out)).mono ?_; rintro e w' ⟨rfl, hb⟩; have HF := Aside0.mk (below_step HB.out hb); clear hb)
 go_ret
 exact ⟨rfl, HF.out⟩
set_option maxHeartbeats 1000000 in
set_option maxRecDepth 100000 in
theorem m2_c {q0 q1 q2 q3 : ByteArray} {t u : Int} {x : S40} (hm : MatchC q0 q1 q2 q3 t u x) (g m : Nat) (T : Nat) (A : Option Addr) (c : Nat) (w : World) (hg : Blk w g 46 #[.string q0, .string q1, .string q2, .string q3, .int .i64 t, .int .i64 u]) (hmm : Blk w m T #[.func (.func 71) #[] #[.pointer (some ⟨g, 0, none⟩)]]) (hr : Kd.C k40 w A x.f4.length x.f4) (hc : x.f4.length ≤ c) :
  Calls Try.prog 73 #[.agg #[.int .i64 x.f0, .string x.f1, .int .i64 x.f2, .int .i64 x.f3, .slice A x.f4.length c], .pointer (some ⟨m, 0, none⟩)] w fun e w' => e = .returned (.bool (!matchB q1 q2 q3 t x)) ∧ Below w.heap.size w w' := by
 have HG := Aside0.mk (hg.alloc (.cells #[.int .i64 x.f0, .string x.f1, .int .i64 x.f2, .int .i64 x.f3, .slice A x.f4.length c] 40))
 have HM := Aside0.mk (hmm.alloc (.cells #[.int .i64 x.f0, .string x.f1, .int .i64 x.f2, .int .i64 x.f3, .slice A x.f4.length c] 40))
 have HB := Aside0.mk (below_alloc (Below.refl w.heap.size w) (.cells #[.int .i64 x.f0, .string x.f1, .int .i64 x.f2, .int .i64 x.f3, .slice A x.f4.length c] 40))
 have HC := Aside0.mk (fun W h1 h2 => m1_c hm g A c W h1 h2 hc)
 have HR := Aside0.mk hr
 have hu40 := Try.underlying40
 have d0 := HM.out.cell 0
 simp only [List.getElem?_toArray, List.getElem?_cons_zero] at d0
 obtain ⟨b, hb⟩ : ∃ b, matchB q1 q2 q3 t x = b := ⟨_, rfl⟩
 rw [hb] at HC ⊢
 clear hm hg hr hc hb hmm
 go_enter Try.func73, Try.ntmps73
 go_wp2_with (go_at_call 71; refine (HC.out _ HG.out (Kd.C_below HR.out HB.out)).mono ?_; rintro e w' ⟨rfl, hb⟩; have HF := Aside0.mk (below_step HB.out hb); clear hb)
 go_ret
 exact ⟨rfl, HF.out⟩
set_option maxHeartbeats 4000000 in
set_option maxRecDepth 100000 in
theorem match_n (q0 q1 q2 q3 : ByteArray) (t u : Int) : ∀ (n : Nat) (x : S40), SizeOf.sizeOf x < n → MatchC q0 q1 q2 q3 t u x := by
 intro n
 induction n with
 | zero => intro x h; exact absurd h (by omega)
 | succ n ih =>
 intro x hn A c w hr hc
 have HK := Aside0.mk (fun k (hk : k ∈ x.f4) => ih k (by have := kid_lt hk; omega))
 have HR := Aside0.mk hr
 have HC := Aside0.mk hc
 have HV := Aside0.mk (show matchB q1 q2 q3 t x = if x.f0 = 1 then true else if x.f0 = 2 then q1.toList == x.f1.toList else if x.f0 = 3 then q2.toList == x.f1.toList else if x.f0 = 4 then q3.toList == x.f1.toList else if x.f0 = 5 then decide (x.f2 ≤ t) && decide (t ≤ x.f3) else if x.f0 = 7 then x.f4.any (matchB q1 q2 q3 t) else if x.f0 = 6 then !(x.f4.any (fun k => !matchB q1 q2 q3 t k)) else if x.f0 = 8 then notB q1 q2 q3 t x.f4 else false by
  obtain ⟨op, nm, fr, to_, kids⟩ := x
  simp only [matchB, anyB_eq, exB_eq])
 have HG := Aside0.mk (show Blk (((w.alloc (.cells #[.int .i64 x.f0, .string x.f1, .int .i64 x.f2, .int .i64 x.f3, .slice A x.f4.length c] 40)).alloc (.cells #[.string q0, .string q1, .string q2, .string q3, .int .i64 t, .int .i64 u] 46)).alloc (.cells #[.func (.func 71) #[] #[.pointer (some ⟨w.heap.size + 1, 0, none⟩)]] 41)) (w.heap.size + 1) 46 #[.string q0, .string q1, .string q2, .string q3, .int .i64 t, .int .i64 u] from blk_alloc (blk2 _ _ _) _)
 have HM := Aside0.mk (show Blk (((w.alloc (.cells #[.int .i64 x.f0, .string x.f1, .int .i64 x.f2, .int .i64 x.f3, .slice A x.f4.length c] 40)).alloc (.cells #[.string q0, .string q1, .string q2, .string q3, .int .i64 t, .int .i64 u] 46)).alloc (.cells #[.func (.func 71) #[] #[.pointer (some ⟨w.heap.size + 1, 0, none⟩)]] 41)) (w.heap.size + 1 + 1) 41 #[.func (.func 71) #[] #[.pointer (some ⟨w.heap.size + 1, 0, none⟩)]] from blk3 _ _ _ _)
 have HB := Aside0.mk (show Below w.heap.size w (((w.alloc (.cells #[.int .i64 x.f0, .string x.f1, .int .i64 x.f2, .int .i64 x.f3, .slice A x.f4.length c] 40)).alloc (.cells #[.string q0, .string q1, .string q2, .string q3, .int .i64 t, .int .i64 u] 46)).alloc (.cells #[.func (.func 71) #[] #[.pointer (some ⟨w.heap.size + 1, 0, none⟩)]] 41)) from below_alloc (below_alloc (below_alloc (Below.refl _ _) _) _) _)
 have hu46 := Try.underlying46
 have hu40 := Try.underlying40
 have hu38 := Try.underlying38
 clear hr hc hn ih
 obtain ⟨bb, hbb⟩ : ∃ bb, matchB q1 q2 q3 t x = bb := ⟨_, rfl⟩
 rw [hbb] at HV ⊢
 clear hbb
 by_cases e1 : x.f0 = 1
 ·have z1 : (x.f0 == 1) = true := beq_iff_eq.mpr e1
  have HV1 := HV.out
  rw [if_pos e1] at HV1
  clear HV e1
  subst HV1
  go_enter Try.func29, Try.ntmps29
  go_wp2
  go_ret
  exact ⟨rfl, HB.out⟩
 ·have z1 : (x.f0 == 1) = false := beq_eq_false_iff_ne.mpr e1
  by_cases e2 : x.f0 = 2
  ·have z2 : (x.f0 == 2) = true := beq_iff_eq.mpr e2
   have HV1 := HV.out
   rw [if_neg e1] at HV1
   rw [if_pos e2] at HV1
   clear HV e1 e2
   subst HV1
   go_enter Try.func29, Try.ntmps29
   go_wp2
   go_ret
   exact ⟨rfl, HB.out⟩
  ·have z2 : (x.f0 == 2) = false := beq_eq_false_iff_ne.mpr e2
   by_cases e3 : x.f0 = 3
   ·have z3 : (x.f0 == 3) = true := beq_iff_eq.mpr e3
    have HV1 := HV.out
    rw [if_neg e1] at HV1
    rw [if_neg e2] at HV1
    rw [if_pos e3] at HV1
    clear HV e1 e2 e3
    subst HV1
    go_enter Try.func29, Try.ntmps29
    go_wp2
    go_ret
    exact ⟨rfl, HB.out⟩
   ·have z3 : (x.f0 == 3) = false := beq_eq_false_iff_ne.mpr e3
    by_cases e4 : x.f0 = 4
    ·have z4 : (x.f0 == 4) = true := beq_iff_eq.mpr e4
     have HV1 := HV.out
     rw [if_neg e1] at HV1
     rw [if_neg e2] at HV1
     rw [if_neg e3] at HV1
     rw [if_pos e4] at HV1
     clear HV e1 e2 e3 e4
     subst HV1
     go_enter Try.func29, Try.ntmps29
     go_wp2
     go_ret
     exact ⟨rfl, HB.out⟩
    ·have z4 : (x.f0 == 4) = false := beq_eq_false_iff_ne.mpr e4
     by_cases e5 : x.f0 = 5
     ·have z5 : (x.f0 == 5) = true := beq_iff_eq.mpr e5
      have HV1 := HV.out
      rw [if_neg e1] at HV1
      rw [if_neg e2] at HV1
      rw [if_neg e3] at HV1
      rw [if_neg e4] at HV1
      rw [if_pos e5] at HV1
      clear HV e1 e2 e3 e4 e5
      obtain ⟨b1, hb1⟩ : ∃ b, decide (x.f2 ≤ t) = b := ⟨_, rfl⟩
      obtain ⟨b2, hb2⟩ : ∃ b, decide (t ≤ x.f3) = b := ⟨_, rfl⟩
      rw [hb1, hb2] at HV1
      subst HV1
      cases b1 <;> cases b2
      all_goals
       go_enter Try.func29, Try.ntmps29
       go_wp2
       go_ret
       exact ⟨rfl, HB.out⟩
     ·have z5 : (x.f0 == 5) = false := beq_eq_false_iff_ne.mpr e5
      by_cases e7 : x.f0 = 7
      ·have z7 : (x.f0 == 7) = true := beq_iff_eq.mpr e7
       have HV1 := HV.out
       rw [if_neg e1] at HV1
       rw [if_neg e2] at HV1
       rw [if_neg e3] at HV1
       rw [if_neg e4] at HV1
       rw [if_neg e5] at HV1
       rw [if_pos e7] at HV1
       clear HV e1 e2 e3 e4 e5 e7
       have HA := Aside0.mk (any_m1 (w.heap.size + 1) (fun k (_ : Unit) => ((matchB q1 q2 q3 t) k, ())) (fun _ W => Blk W (w.heap.size + 1) 46 #[.string q0, .string q1, .string q2, .string q3, .int .i64 t, .int .i64 u] ∧ Blk W (w.heap.size + 1 + 1) 41 #[.func (.func 71) #[] #[.pointer (some ⟨w.heap.size + 1, 0, none⟩)]] ∧ Below w.heap.size w W) A x.f4 c w HR.out (fun _ W h => h.2.2) (by
        intro k hk _ W A4 c4 hi h1 h2
        refine (m1_c (HK.out k hk) (w.heap.size + 1) A4 c4 W hi.1 (Kd.C_below h1 hi.2.2) h2).mono ?_
        rintro e w' ⟨rfl, hb⟩
        exact ⟨rfl, hi.1.below hb, hi.2.1.below hb, below_step hi.2.2 hb⟩) () _ ⟨HG.out, HM.out, HB.out⟩)
       rw [runAny_pure] at HA
       obtain ⟨ab, hab⟩ : ∃ b, x.f4.any (matchB q1 q2 q3 t) = b := ⟨_, rfl⟩
       rw [hab] at HA HV1
       subst HV1
       clear hab HG HM HK
       go_enter Try.func29, Try.ntmps29
       go_wp2_with (go_at_call 72; refine HA.out.mono ?_; rintro e w' ⟨rfl, hv⟩; have HF := Aside0.mk hv.2.2; clear hv)
       go_ret
       exact ⟨rfl, HF.out⟩
      ·have z7 : (x.f0 == 7) = false := beq_eq_false_iff_ne.mpr e7
       by_cases e6 : x.f0 = 6
       ·have z6 : (x.f0 == 6) = true := beq_iff_eq.mpr e6
        have HV1 := HV.out
        rw [if_neg e1] at HV1
        rw [if_neg e2] at HV1
        rw [if_neg e3] at HV1
        rw [if_neg e4] at HV1
        rw [if_neg e5] at HV1
        rw [if_neg e7] at HV1
        rw [if_pos e6] at HV1
        clear HV e1 e2 e3 e4 e5 e7 e6
        have HA := Aside0.mk (any_m2 (w.heap.size + 1 + 1) (fun k (_ : Unit) => ((fun k => !matchB q1 q2 q3 t k) k, ())) (fun _ W => Blk W (w.heap.size + 1) 46 #[.string q0, .string q1, .string q2, .string q3, .int .i64 t, .int .i64 u] ∧ Blk W (w.heap.size + 1 + 1) 41 #[.func (.func 71) #[] #[.pointer (some ⟨w.heap.size + 1, 0, none⟩)]] ∧ Below w.heap.size w W) A x.f4 c w HR.out (fun _ W h => h.2.2) (by
         intro k hk _ W A4 c4 hi h1 h2
         refine (m2_c (HK.out k hk) (w.heap.size + 1) (w.heap.size + 1 + 1) 41 A4 c4 W hi.1 hi.2.1 (Kd.C_below h1 hi.2.2) h2).mono ?_
         rintro e w' ⟨rfl, hb⟩
         exact ⟨rfl, hi.1.below hb, hi.2.1.below hb, below_step hi.2.2 hb⟩) () _ ⟨HG.out, HM.out, HB.out⟩)
        rw [runAny_pure] at HA
        obtain ⟨ab, hab⟩ : ∃ b, x.f4.any (fun k => !matchB q1 q2 q3 t k) = b := ⟨_, rfl⟩
        rw [hab] at HA HV1
        subst HV1
        clear hab HG HM HK
        go_enter Try.func29, Try.ntmps29
        go_wp2_with (go_at_call 72; refine HA.out.mono ?_; rintro e w' ⟨rfl, hv⟩; have HF := Aside0.mk hv.2.2; clear hv)
        go_ret
        exact ⟨rfl, HF.out⟩
       ·have z6 : (x.f0 == 6) = false := beq_eq_false_iff_ne.mpr e6
        by_cases e8 : x.f0 = 8
        ·have z8 : (x.f0 == 8) = true := beq_iff_eq.mpr e8
         have HV1 := HV.out
         rw [if_neg e1] at HV1
         rw [if_neg e2] at HV1
         rw [if_neg e3] at HV1
         rw [if_neg e4] at HV1
         rw [if_neg e5] at HV1
         rw [if_neg e7] at HV1
         rw [if_neg e6] at HV1
         rw [if_pos e8] at HV1
         clear HV e1 e2 e3 e4 e5 e7 e6 e8
         by_cases hk : x.f4.length = 0
         ·have zz : ((x.f4.length : Int) == 0) = true := beq_iff_eq.mpr (by omega)
          rw [List.eq_nil_of_length_eq_zero hk, notB] at HV1
          subst HV1
          clear hk HK HG HM
          go_enter Try.func29, Try.ntmps29
          go_upto_region 18 with (fail)
          obtain ⟨W, hW⟩ : ∃ W, (((w.alloc (.cells #[.int .i64 x.f0, .string x.f1, .int .i64 x.f2, .int .i64 x.f3, .slice A x.f4.length c] 40)).alloc (.cells #[.string q0, .string q1, .string q2, .string q3, .int .i64 t, .int .i64 u] 46)).alloc (.cells #[.func (.func 71) #[] #[.pointer (some ⟨w.heap.size + 1, 0, none⟩)]] 41)) = W := ⟨_, rfl⟩
          have HT := Aside0.mk (show Blk W w.heap.size 40 #[.int .i64 x.f0, .string x.f1, .int .i64 x.f2, .int .i64 x.f3, .slice A x.f4.length c] by rw [← hW]; exact blk_alloc (blk_alloc (blk_new _ _) _) _)
          rw [hW] at HB ⊢
          clear hW
          have d4 := HT.out.cell 4
          simp only [List.getElem?_toArray, List.getElem?_cons_zero, List.getElem?_cons_succ] at d4
          refine wp_region_held_drew (S := fun W1 => W1.cell? ⟨w.heap.size, 4, none⟩ = some (.slice A x.f4.length c)) (by kernel_rfl) (((below_drew1 (Below.refl W.heap.size W)).cell (World.block_lt_of_cell? _ _ d4)).trans d4) (fun hHeld => ?_)
          (refine wpAnyH_take (i := 0) (v := ?_) rfl (by kernel_rfl) (by kernel_rfl) (by kernel_rfl) (fun _ _ _ h => h) (Or.inl ⟨by rfl, ?_⟩) (by assumption) ?_; (case' refine_2 => (intro w hSw; go_simp; try with_reducible rfl)); (try simp only [Act.put, List.getElem_toArray, List.getElem_cons_zero, List.getElem_cons_succ, List.setIfInBounds_toArray, List.set_cons_zero, List.set_cons_succ]))
          (refine wpAnyH_take (i := 1) (v := ?_) rfl (by kernel_rfl) (by kernel_rfl) (by kernel_rfl) (fun _ _ _ h => h) (Or.inl ⟨by rfl, ?_⟩) (by assumption) ?_; (case' refine_2 => (intro w hSw; go_simp; try with_reducible rfl)); (try simp only [Act.put, List.getElem_toArray, List.getElem_cons_zero, List.getElem_cons_succ, List.setIfInBounds_toArray, List.set_cons_zero, List.set_cons_succ]))
          (refine wpAnyH_take (i := 2) (v := ?_) rfl (by kernel_rfl) (by kernel_rfl) (by kernel_rfl) (fun _ _ _ h => h) (Or.inl ⟨by rfl, ?_⟩) (by assumption) ?_; (case' refine_2 => (intro w hSw; go_simp; try with_reducible rfl)); (try simp only [Act.put, List.getElem_toArray, List.getElem_cons_zero, List.getElem_cons_succ, List.setIfInBounds_toArray, List.set_cons_zero, List.set_cons_succ]))
          (refine wpAnyH_take (i := 3) (v := ?_) rfl (by kernel_rfl) (by kernel_rfl) (by kernel_rfl) (fun _ _ _ h => h) (Or.inl ⟨by rfl, ?_⟩) (by assumption) ?_; (case' refine_2 => (intro w hSw; go_simp; try with_reducible rfl)); (try simp only [Act.put, List.getElem_toArray, List.getElem_cons_zero, List.getElem_cons_succ, List.setIfInBounds_toArray, List.set_cons_zero, List.set_cons_succ]))
          (refine wpAnyH_take (i := 4) (v := ?_) rfl (by kernel_rfl) (by kernel_rfl) (by kernel_rfl) (fun _ _ _ h => h) (Or.inl ⟨by rfl, ?_⟩) (by assumption) ?_; (case' refine_2 => (intro w hSw; go_simp; try with_reducible rfl)); (try simp only [Act.put, List.getElem_toArray, List.getElem_cons_zero, List.getElem_cons_succ, List.setIfInBounds_toArray, List.set_cons_zero, List.set_cons_succ]))
          (refine wpAnyH_take (i := 5) (v := undef) rfl (by kernel_rfl) (by kernel_rfl) (by kernel_rfl) (fun _ _ _ h => h) (Or.inr ⟨by rfl, rfl⟩) (by assumption) ?_; (try simp only [Act.put, List.getElem_toArray, List.getElem_cons_zero, List.getElem_cons_succ, List.setIfInBounds_toArray, List.set_cons_zero, List.set_cons_succ]))
          (refine wpAnyH_take (i := 6) (v := undef) rfl (by kernel_rfl) (by kernel_rfl) (by kernel_rfl) (fun _ _ _ h => h) (Or.inr ⟨by rfl, rfl⟩) (by assumption) ?_; (try simp only [Act.put, List.getElem_toArray, List.getElem_cons_zero, List.getElem_cons_succ, List.setIfInBounds_toArray, List.set_cons_zero, List.set_cons_succ]))
          (refine wpAnyH_take (i := 7) (v := undef) rfl (by kernel_rfl) (by kernel_rfl) (by kernel_rfl) (fun _ _ _ h => h) (Or.inr ⟨by rfl, rfl⟩) (by assumption) ?_; (try simp only [Act.put, List.getElem_toArray, List.getElem_cons_zero, List.getElem_cons_succ, List.setIfInBounds_toArray, List.set_cons_zero, List.set_cons_succ]))
          (refine wpAnyH_take (i := 8) (v := undef) rfl (by kernel_rfl) (by kernel_rfl) (by kernel_rfl) (fun _ _ _ h => h) (Or.inr ⟨by rfl, rfl⟩) (by assumption) ?_; (try simp only [Act.put, List.getElem_toArray, List.getElem_cons_zero, List.getElem_cons_succ, List.setIfInBounds_toArray, List.set_cons_zero, List.set_cons_succ]))
          (refine wpAnyH_take (i := 9) (v := undef) rfl (by kernel_rfl) (by kernel_rfl) (by kernel_rfl) (fun _ _ _ h => h) (Or.inr ⟨by rfl, rfl⟩) (by assumption) ?_; (try simp only [Act.put, List.getElem_toArray, List.getElem_cons_zero, List.getElem_cons_succ, List.setIfInBounds_toArray, List.set_cons_zero, List.set_cons_succ]))
          (refine wpAnyH_take (i := 10) (v := undef) rfl (by kernel_rfl) (by kernel_rfl) (by kernel_rfl) (fun _ _ _ h => h) (Or.inr ⟨by rfl, rfl⟩) (by assumption) ?_; (try simp only [Act.put, List.getElem_toArray, List.getElem_cons_zero, List.getElem_cons_succ, List.setIfInBounds_toArray, List.set_cons_zero, List.set_cons_succ]))
          (refine wpAnyH_take (i := 11) (v := undef) rfl (by kernel_rfl) (by kernel_rfl) (by kernel_rfl) (fun _ _ _ h => h) (Or.inr ⟨by rfl, rfl⟩) (by assumption) ?_; (try simp only [Act.put, List.getElem_toArray, List.getElem_cons_zero, List.getElem_cons_succ, List.setIfInBounds_toArray, List.set_cons_zero, List.set_cons_succ]))
          (refine wpAnyH_take (i := 12) (v := ?_) rfl (by kernel_rfl) (by kernel_rfl) (by kernel_rfl) (fun _ _ _ h => h) (Or.inl ⟨by rfl, ?_⟩) (by assumption) ?_; (case' refine_2 => (intro w hSw; go_simp; try with_reducible rfl)); (try simp only [Act.put, List.getElem_toArray, List.getElem_cons_zero, List.getElem_cons_succ, List.setIfInBounds_toArray, List.set_cons_zero, List.set_cons_succ]))
          (refine wpAnyH_take (i := 13) (v := ?_) rfl (by kernel_rfl) (by kernel_rfl) (by kernel_rfl) (fun _ _ _ h => h) (Or.inl ⟨by rfl, ?_⟩) (by assumption) ?_; (case' refine_2 => (intro w hSw; go_simp; try with_reducible rfl)); (try simp only [Act.put, List.getElem_toArray, List.getElem_cons_zero, List.getElem_cons_succ, List.setIfInBounds_toArray, List.set_cons_zero, List.set_cons_succ]))
          refine wpAnyH_done (by kernel_rfl) ?_ _
          go_wp2
          go_ret
          exact ⟨rfl, below_drew1 HB.out⟩
         ·have zz : ((x.f4.length : Int) == 0) = false := beq_eq_false_iff_ne.mpr (by omega)
          have p2 : (0 : Int) < (x.f4.length : Int) := by omega
          obtain ⟨k0, hk0, hv0⟩ : ∃ k0, k0 ∈ x.f4 ∧ rd_T40 x.f4 0 = k0 ∧ notB q1 q2 q3 t x.f4 = !matchB q1 q2 q3 t k0 := by
           cases hx : x.f4 with
           | nil => rw [hx] at hk; exact absurd rfl hk
           | cons k ks => exact ⟨k, List.mem_cons_self, by simp [rd_T40], by simp [notB]⟩
          obtain ⟨hrd, hv0⟩ := hv0
          rw [hv0] at HV1
          have HM0 := Aside0.mk (HK.out k0 hk0)
          obtain ⟨b, hb⟩ : ∃ b, matchB q1 q2 q3 t k0 = b := ⟨_, rfl⟩
          rw [hb] at HV1
          subst HV1
          go_enter Try.func29, Try.ntmps29
          go_upto_region 18 with (fail)
          obtain ⟨W, hW⟩ : ∃ W, (((w.alloc (.cells #[.int .i64 x.f0, .string x.f1, .int .i64 x.f2, .int .i64 x.f3, .slice A x.f4.length c] 40)).alloc (.cells #[.string q0, .string q1, .string q2, .string q3, .int .i64 t, .int .i64 u] 46)).alloc (.cells #[.func (.func 71) #[] #[.pointer (some ⟨w.heap.size + 1, 0, none⟩)]] 41)) = W := ⟨_, rfl⟩
          have HT := Aside0.mk (show Blk W w.heap.size 40 #[.int .i64 x.f0, .string x.f1, .int .i64 x.f2, .int .i64 x.f3, .slice A x.f4.length c] by rw [← hW]; exact blk_alloc (blk_alloc (blk_new _ _) _) _)
          rw [hW] at HB HG HM ⊢
          clear hW
          obtain ⟨ad, A4, c4, rfl, hx0, hx1, hx2, hx3, hx4, hl4, hi4⟩ := at_T40 (Kd.C_below HR.out HB.out) 0 (by omega) p2
          rw [hrd] at hx0 hx1 hx2 hx3 hx4 hl4 hi4
          simp only [Int.toNat_zero, Nat.zero_mul, Addr.add_zero'] at hx0 hx1 hx2 hx3 hx4
          have HC0 := Aside0.mk (fun W1 (h1 : Blk W1 (w.heap.size + 1) 46 #[.string q0, .string q1, .string q2, .string q3, .int .i64 t, .int .i64 u]) (h2 : Kd.C k40 W1 A4 k0.f4.length k0.f4) => m1_c HM0.out (w.heap.size + 1) A4 c4 W1 h1 h2 hl4)
          rw [hb] at HC0
          have HI4 := Aside0.mk hi4
          have HGd := Aside0.mk (HG.out.below (below_drew1 (Below.refl _ _)))
          have HBd := Aside0.mk (below_drew1 HB.out)
          have HId := Aside0.mk (Kd.C_below hi4 (below_drew1 (Below.refl _ _)))
          clear hi4 hl4 hrd hk hk0 hv0 hb HK HM0
          have p3 : 0 < x.f4.length := by omega
          have d4 := HT.out.cell 4
          have m0 := HM.out.cell 0
          simp only [List.getElem?_toArray, List.getElem?_cons_zero, List.getElem?_cons_succ] at d4 m0
          have hd_ := below_drew1 (Below.refl W.heap.size W)
          have HSd4 := Aside0.mk ((hd_.cell (World.block_lt_of_cell? _ _ d4)).trans d4)
          have HSm0 := Aside0.mk ((hd_.cell (World.block_lt_of_cell? _ _ m0)).trans m0)
          have HShx0 := Aside0.mk ((hd_.cell (World.block_lt_of_cell? _ _ hx0)).trans hx0)
          have HShx1 := Aside0.mk ((hd_.cell (World.block_lt_of_cell? _ _ hx1)).trans hx1)
          have HShx2 := Aside0.mk ((hd_.cell (World.block_lt_of_cell? _ _ hx2)).trans hx2)
          have HShx3 := Aside0.mk ((hd_.cell (World.block_lt_of_cell? _ _ hx3)).trans hx3)
          have HShx4 := Aside0.mk ((hd_.cell (World.block_lt_of_cell? _ _ hx4)).trans hx4)
          clear hd_ d4 m0 hx0 hx1 hx2 hx3 hx4
          refine wp_region_held_drew (S := fun W1 => W1.cell? ⟨w.heap.size, 4, none⟩ = some (.slice (some ad) x.f4.length c) ∧ W1.cell? ⟨w.heap.size + 1 + 1, 0, none⟩ = some (.func (.func 71) #[] #[.pointer (some ⟨w.heap.size + 1, 0, none⟩)]) ∧ W1.cell? ad = some (.int .i64 k0.f0) ∧ W1.cell? ⟨ad.block, ad.off + 1, none⟩ = some (.string k0.f1) ∧ W1.cell? ⟨ad.block, ad.off + 2, none⟩ = some (.int .i64 k0.f2) ∧ W1.cell? ⟨ad.block, ad.off + 3, none⟩ = some (.int .i64 k0.f3) ∧ W1.cell? ⟨ad.block, ad.off + 4, none⟩ = some (.slice A4 k0.f4.length c4)) (by kernel_rfl) ⟨HSd4.out, HSm0.out, HShx0.out, HShx1.out, HShx2.out, HShx3.out, HShx4.out⟩ (fun hHeld => ?_)
          (refine wpAnyH_take (i := 0) (v := ?_) rfl (by kernel_rfl) (by kernel_rfl) (by kernel_rfl) (fun _ _ _ h => h) (Or.inl ⟨by rfl, ?_⟩) (by assumption) ?_; (case' refine_2 => (intro w hSw; go_simp; try with_reducible rfl)); (try simp only [Act.put, List.getElem_toArray, List.getElem_cons_zero, List.getElem_cons_succ, List.setIfInBounds_toArray, List.set_cons_zero, List.set_cons_succ]))
          (refine wpAnyH_take (i := 1) (v := ?_) rfl (by kernel_rfl) (by kernel_rfl) (by kernel_rfl) (fun _ _ _ h => h) (Or.inl ⟨by rfl, ?_⟩) (by assumption) ?_; (case' refine_2 => (intro w hSw; go_simp; try with_reducible rfl)); (try simp only [Act.put, List.getElem_toArray, List.getElem_cons_zero, List.getElem_cons_succ, List.setIfInBounds_toArray, List.set_cons_zero, List.set_cons_succ]))
          (refine wpAnyH_take (i := 2) (v := ?_) rfl (by kernel_rfl) (by kernel_rfl) (by kernel_rfl) (fun _ _ _ h => h) (Or.inl ⟨by rfl, ?_⟩) (by assumption) ?_; (case' refine_2 => (intro w hSw; go_simp; try with_reducible rfl)); (try simp only [Act.put, List.getElem_toArray, List.getElem_cons_zero, List.getElem_cons_succ, List.setIfInBounds_toArray, List.set_cons_zero, List.set_cons_succ]))
          (refine wpAnyH_take (i := 3) (v := ?_) rfl (by kernel_rfl) (by kernel_rfl) (by kernel_rfl) (fun _ _ _ h => h) (Or.inl ⟨by rfl, ?_⟩) (by assumption) ?_; (case' refine_2 => (intro w hSw; go_simp; try with_reducible rfl)); (try simp only [Act.put, List.getElem_toArray, List.getElem_cons_zero, List.getElem_cons_succ, List.setIfInBounds_toArray, List.set_cons_zero, List.set_cons_succ]))
          (refine wpAnyH_take (i := 4) (v := ?_) rfl (by kernel_rfl) (by kernel_rfl) (by kernel_rfl) (fun _ _ _ h => h) (Or.inl ⟨by rfl, ?_⟩) (by assumption) ?_; (case' refine_2 => (intro w hSw; go_simp; try with_reducible rfl)); (try simp only [Act.put, List.getElem_toArray, List.getElem_cons_zero, List.getElem_cons_succ, List.setIfInBounds_toArray, List.set_cons_zero, List.set_cons_succ]))
          (refine wpAnyH_take (i := 5) (v := ?_) rfl (by kernel_rfl) (by kernel_rfl) (by kernel_rfl) (fun _ _ _ h => h) (Or.inl ⟨by rfl, ?_⟩) (by assumption) ?_; (case' refine_2 => (intro w hSw; go_simp; try with_reducible rfl)); (try simp only [Act.put, List.getElem_toArray, List.getElem_cons_zero, List.getElem_cons_succ, List.setIfInBounds_toArray, List.set_cons_zero, List.set_cons_succ]))
          (refine wpAnyH_take (i := 6) (v := ?_) rfl (by kernel_rfl) (by kernel_rfl) (by kernel_rfl) (fun _ _ _ h => h) (Or.inl ⟨by rfl, ?_⟩) (by assumption) ?_; (case' refine_2 => (intro w hSw; go_simp; try with_reducible rfl)); (try simp only [Act.put, List.getElem_toArray, List.getElem_cons_zero, List.getElem_cons_succ, List.setIfInBounds_toArray, List.set_cons_zero, List.set_cons_succ]))
          (refine wpAnyH_take (i := 7) (v := ?_) rfl (by kernel_rfl) (by kernel_rfl) (by kernel_rfl) (fun _ _ _ h => h) (Or.inl ⟨by rfl, ?_⟩) (by assumption) ?_; (case' refine_2 => (intro w hSw; go_simp; try with_reducible rfl)); (try simp only [Act.put, List.getElem_toArray, List.getElem_cons_zero, List.getElem_cons_succ, List.setIfInBounds_toArray, List.set_cons_zero, List.set_cons_succ]))
          (refine wpAnyH_take (i := 8) (v := ?_) rfl (by kernel_rfl) (by kernel_rfl) (by kernel_rfl) (fun _ _ _ h => h) (Or.inl ⟨by rfl, ?_⟩) (by assumption) ?_; (case' refine_2 => (intro w hSw; go_simp; try with_reducible rfl)); (try simp only [Act.put, List.getElem_toArray, List.getElem_cons_zero, List.getElem_cons_succ, List.setIfInBounds_toArray, List.set_cons_zero, List.set_cons_succ]))
          (refine wpAnyH_take (i := 9) (v := ?_) rfl (by kernel_rfl) (by kernel_rfl) (by kernel_rfl) (fun _ _ _ h => h) (Or.inl ⟨by rfl, ?_⟩) (by assumption) ?_; (case' refine_2 => (intro w hSw; go_simp; try with_reducible rfl)); (try simp only [Act.put, List.getElem_toArray, List.getElem_cons_zero, List.getElem_cons_succ, List.setIfInBounds_toArray, List.set_cons_zero, List.set_cons_succ]))
          (refine wpAnyH_ready (rs := [10]) (by kernel_rfl) (by simp) (AllReadyH.cons rfl (fun K hK => ?_) AllReadyH.nil); go_simp)
          refine (HC0.out _ HGd.out HId.out).mono ?_
          rintro e w' ⟨rfl, hb⟩
          have HF := Aside0.mk (below_step HBd.out hb)
          (refine Shut.out hK _ _ ⟨(hb.cell (World.block_lt_of_cell? _ _ HSd4.out)).trans HSd4.out, (hb.cell (World.block_lt_of_cell? _ _ HSm0.out)).trans HSm0.out, (hb.cell (World.block_lt_of_cell? _ _ HShx0.out)).trans HShx0.out, (hb.cell (World.block_lt_of_cell? _ _ HShx1.out)).trans HShx1.out, (hb.cell (World.block_lt_of_cell? _ _ HShx2.out)).trans HShx2.out, (hb.cell (World.block_lt_of_cell? _ _ HShx3.out)).trans HShx3.out, (hb.cell (World.block_lt_of_cell? _ _ HShx4.out)).trans HShx4.out⟩ (fun hHeld => ?_); clear hK K; (try simp only [Act.put, List.getElem_toArray, List.getElem_cons_zero, List.getElem_cons_succ, List.setIfInBounds_toArray, List.set_cons_zero, List.set_cons_succ]))
          (refine wpAnyH_take (i := 11) (v := ?_) rfl (by kernel_rfl) (by kernel_rfl) (by kernel_rfl) (fun _ _ _ h => h) (Or.inl ⟨by rfl, ?_⟩) (by assumption) ?_; (case' refine_2 => (intro w hSw; go_simp; try with_reducible rfl)); (try simp only [Act.put, List.getElem_toArray, List.getElem_cons_zero, List.getElem_cons_succ, List.setIfInBounds_toArray, List.set_cons_zero, List.set_cons_succ]))
          (refine wpAnyH_take (i := 12) (v := ?_) rfl (by kernel_rfl) (by kernel_rfl) (by kernel_rfl) (fun _ _ _ h => h) (Or.inl ⟨by rfl, ?_⟩) (by assumption) ?_; (case' refine_2 => (intro w hSw; go_simp; try with_reducible rfl)); (try simp only [Act.put, List.getElem_toArray, List.getElem_cons_zero, List.getElem_cons_succ, List.setIfInBounds_toArray, List.set_cons_zero, List.set_cons_succ]))
          (refine wpAnyH_take (i := 13) (v := ?_) rfl (by kernel_rfl) (by kernel_rfl) (by kernel_rfl) (fun _ _ _ h => h) (Or.inl ⟨by rfl, ?_⟩) (by assumption) ?_; (case' refine_2 => (intro w hSw; go_simp; try with_reducible rfl)); (try simp only [Act.put, List.getElem_toArray, List.getElem_cons_zero, List.getElem_cons_succ, List.setIfInBounds_toArray, List.set_cons_zero, List.set_cons_succ]))
          refine wpAnyH_done (by kernel_rfl) ?_ _
          go_wp2
          go_ret
          exact ⟨rfl, HF.out⟩
        ·have z8 : (x.f0 == 8) = false := beq_eq_false_iff_ne.mpr e8
         have HV1 := HV.out
         rw [if_neg e1] at HV1
         rw [if_neg e2] at HV1
         rw [if_neg e3] at HV1
         rw [if_neg e4] at HV1
         rw [if_neg e5] at HV1
         rw [if_neg e7] at HV1
         rw [if_neg e6] at HV1
         rw [if_neg e8] at HV1
         subst HV1
         clear HV e1 e2 e3 e4 e5 e7 e6 e8
         go_enter Try.func29, Try.ntmps29
         go_wp2
         go_ret
         exact ⟨rfl, HB.out⟩
end Go.Proofs.Ytgdpabedlghiaaa.Scope
-- printed for this claim by a program (pall.sh)
-- mended by fixpz.py
namespace Go.Proofs.Ytgdpabedlghiaaa.PZ
open Go.RowKit Go.Proofs.YtgdpabedlghiaaaW.PrintWords Go.Proofs.YtgdpabedlghiaaaW.PrintLast Go.Proofs.YtgdpabedlghiaaaW.PrintMore
attribute [local go_sem] max2_int min2_int max_two min_two max_three min_three max_four min_four   -- for this text's walks alone
set_option linter.unusedVariables false
set_option linter.unusedSimpArgs false

/-! ### scope_named: function 109 -/
def scope_named.f (a0 : Int) : Option (Bool) := if a0 = 2 then (some true) else (if a0 = 3 then (some true) else (if a0 = 4 then (some true) else (some false)))
set_option maxHeartbeats 8000000 in
set_option maxRecDepth 100000 in
theorem scope_named.calls (a0 : Int) (r : Bool) (w : World) (h : scope_named.f a0 = some r) :
  Calls Try.prog 109 #[.int .i64 a0] w fun e w' => e = .returned (.bool r) ∧ Drawn0 w w' := by
 have H : (if a0 = 2 then (some true) else (if a0 = 3 then (some true) else (if a0 = 4 then (some true) else (some false)))) = some r := h
 clear h
 by_cases c2 : a0 = 2
 ·rw [if_pos c2] at H
  have c2b0 : (a0 == 2) = true := beq_iff_eq.mpr c2
  have c2b1 : (a0 != 2) = false := bne_eq_false_iff_eq.mpr c2
  clear c2
  obtain rfl := Option.some.inj H
  go_enter Try.func109, Try.ntmps109
  go_wp2
  go_ret
  exact ⟨by first | rfl | (simp; done) | (simp [*]; done), by repeat (first | exact Drawn0.refl _ | apply Drawn0.step)⟩
 ·rw [if_neg c2] at H
  have c2b0 : (a0 == 2) = false := beq_eq_false_iff_ne.mpr c2
  have c2b1 : (a0 != 2) = true := bne_iff_ne.mpr c2
  by_cases c3 : a0 = 3
  ·rw [if_pos c3] at H
   have c3b0 : (a0 == 3) = true := beq_iff_eq.mpr c3
   have c3b1 : (a0 != 3) = false := bne_eq_false_iff_eq.mpr c3
   clear c3
   obtain rfl := Option.some.inj H
   go_enter Try.func109, Try.ntmps109
   go_wp2
   go_ret
   exact ⟨by first | rfl | (simp; done) | (simp [*]; done), by repeat (first | exact Drawn0.refl _ | apply Drawn0.step)⟩
  ·rw [if_neg c3] at H
   have c3b0 : (a0 == 3) = false := beq_eq_false_iff_ne.mpr c3
   have c3b1 : (a0 != 3) = true := bne_iff_ne.mpr c3
   by_cases c4 : a0 = 4
   ·rw [if_pos c4] at H
    have c4b0 : (a0 == 4) = true := beq_iff_eq.mpr c4
    have c4b1 : (a0 != 4) = false := bne_eq_false_iff_eq.mpr c4
    clear c4
    obtain rfl := Option.some.inj H
    go_enter Try.func109, Try.ntmps109
    go_wp2
    go_ret
    exact ⟨by first | rfl | (simp; done) | (simp [*]; done), by repeat (first | exact Drawn0.refl _ | apply Drawn0.step)⟩
   ·rw [if_neg c4] at H
    have c4b0 : (a0 == 4) = false := beq_eq_false_iff_ne.mpr c4
    have c4b1 : (a0 != 4) = true := bne_iff_ne.mpr c4
    obtain rfl := Option.some.inj H
    go_enter Try.func109, Try.ntmps109
    go_wp2
    go_ret
    exact ⟨by first | rfl | (simp; done) | (simp [*]; done), by repeat (first | exact Drawn0.refl _ | apply Drawn0.step)⟩

end Go.Proofs.Ytgdpabedlghiaaa.PZ
/- inode.Name: which texts may be names. -/
namespace Go.Proofs.Ytgdpabedlghiaaa.Name
set_option linter.unusedSimpArgs false
open Go.RowKit Go.Lib Go.Proofs.Ytgdpabedlghiaaa.Base Go.Proofs.YtgdpabedlghiaaaW.PrintWords Go.Proofs.YtgdpabedlghiaaaW.PrintLast Go.Proofs.YtgdpabedlghiaaaW.PrintMore

/-- Which letters may stand in a name. -/
def letB (r : Nat) : Bool := (decide (97 ≤ r) && decide (r ≤ 122)) || (decide (48 ≤ r) && decide (r ≤ 57)) || decide (r = 46) || decide (r = 45) || decide (r = 95)
set_option maxHeartbeats 1000000 in
theorem letter_c (r : Nat) (w : World) : Calls Try.prog 65 #[.int .i32 (r : Int)] w fun e w' => e = .returned (.bool (letB r)) ∧ ∃ q, w' = w.drewN q := by
  go_enter Try.func65, Try.ntmps65
  go_wp2
  all_goals
    go_ret
    refine ⟨congrArg (fun b => Ending.returned (Value.bool b)) ?_, 0, rfl⟩
    rw [Bool.eq_iff_iff]
    simp only [letB, Bool.or_eq_true, Bool.and_eq_true, decide_eq_true_eq, beq_iff_eq]
    first | omega | (simp; omega)
theorem pred (w : World) : PredAt Try.prog 64 #[] encR (fun r => !letB r) w := fun W r _ => by
  unfold FnGives
  have hL := letter_c r
  obtain ⟨b, hb⟩ : ∃ b, letB r = b := ⟨_, rfl⟩
  dsimp only
  rw [hb] at hL ⊢
  clear hb
  go_enter Try.func64, Try.ntmps64
  go_wp2_with (go_at_call 65; refine (hL _).mono ?_; rintro e w' ⟨rfl, q, rfl⟩)
  go_ret
  exact ⟨rfl, _, rfl⟩

set_option maxHeartbeats 2000000 in
set_option maxRecDepth 1000000 in
theorem index_c (s : ByteArray) (w : World) :
    Calls Try.prog 108 #[.string s, .func (.func 64) #[] #[], .bool true] w fun e w' => e = .returned (.int .i64 (Lib.idxFunc (fun r => !letB r) true s)) ∧ Below w.heap.size w w' := by
  have hp := pred w
  obtain ⟨p, hpp⟩ : ∃ p : Nat → Bool, (fun r => !letB r) = p := ⟨_, rfl⟩
  rw [hpp] at hp ⊢
  clear hpp
  go_enter Try.func108, Try.ntmps108
  go_wp2
  go_loopg [] s.size (fun gf wx => ∃ pos : Nat, wx.heap[w.heap.size]? = some (.stringIter s pos) ∧ Below w.heap.size w wx ∧ Lib.idxFuncFrom p true s gf pos = Lib.idxFunc p true s ∧ s.size ≤ pos + gf)
  case atStart => exact ⟨0, World.iter_heap w s 0, (Below.refl _ w).alloc (Nat.le_refl _) _, rfl, by omega⟩
  case round =>
    obtain ⟨pos, hit, hbw, hleft, hfu⟩ := hrel
    by_cases hps : pos < s.size
    · obtain ⟨g', rfl⟩ : ∃ g', gk = g' + 1 := ⟨gk - 1, by omega⟩
      have hnx : ∀ ty, (Instr.next (.pointer (some ⟨w.heap.size, 0, none⟩)) true ty).run Try.prog wr = _ := fun ty => Lib.run_next_any_at wr w.heap.size s pos ty hit hps
      have hwd := Lib.width_pos s pos
      obtain ⟨R, hR⟩ : ∃ R, (Utf8.decode s pos).1 = R := ⟨_, rfl⟩
      obtain ⟨K, hK⟩ : ∃ K, (Utf8.decode s pos).2 = K := ⟨_, rfl⟩
      simp only [Lib.idxFuncFrom, hps, if_true, hR, hK] at hleft
      rw [hR, hK] at hnx
      rw [hK] at hwd
      have hit2 := Lib.iterAt_heap wr w.heap.size s pos (pos + K) hit
      have hbw2 := Lib.below_iterAt hbw (k := w.heap.size) (Nat.le_refl _) s (pos + K)
      obtain ⟨W, hWd⟩ : ∃ W, wr.iterAt w.heap.size s (pos + K) = W := ⟨_, rfl⟩
      rw [hWd] at hnx hit2 hbw2
      have cS : Calls Try.prog 64 (#[.int .i32 (R : Int)] ++ #[]) W _ := hp W R hbw2
      simp only [List.append_toArray, List.cons_append, List.nil_append, Array.append_empty] at cS
      clear hp
      cases hsp : p R <;> rw [hsp] at cS <;> simp only [hsp, if_true, Bool.false_eq_true, Bool.true_eq_false, if_false] at hleft
      · go_wp2_with (go_at_call 64; refine cS.mono ?_; rintro e W' ⟨rfl, q, rfl⟩)
        go_roundg g'
        case measure => omega
        case rel => exact ⟨pos + K, hit2, below_drewN' hbw2 q, hleft, by omega⟩
      · go_wp2_with (go_at_call 64; refine cS.mono ?_; rintro e W' ⟨rfl, q, rfl⟩)
        go_ret
        exact ⟨by rw [← hleft] <;> rfl, below_drewN' hbw2 q⟩
    · have hnx : ∀ ty, (Instr.next (.pointer (some ⟨w.heap.size, 0, none⟩)) true ty).run Try.prog wr = _ := fun ty => Lib.run_next_end_at wr w.heap.size s pos ty hit hps
      rw [Lib.idxFuncFrom_end p true s gk pos hps] at hleft
      go_wp2
      go_ret
      exact ⟨by rw [← hleft] <;> rfl, hbw⟩
set_option maxHeartbeats 1000000 in
theorem Index_c (s : ByteArray) (w : World) :
    Calls Try.prog 63 #[.string s, .func (.func 64) #[] #[]] w fun e w' => e = .returned (.int .i64 (Lib.idxFunc (fun r => !letB r) true s)) ∧ Below w.heap.size w w' := by
  have cI := index_c s w
  go_enter Try.func63, Try.ntmps63
  go_wp2_with (go_at_call 108; refine cI.mono ?_; rintro e w' ⟨rfl, hb⟩)
  go_ret
  exact ⟨rfl, hb⟩
def nameB (s : ByteArray) : Bool := decide (Lib.idxFunc (fun r => !letB r) true s < 0) && (decide (1 ≤ s.size) && decide (s.size ≤ 16))
set_option maxHeartbeats 1000000 in
theorem name_c (s : ByteArray) (w : World) :
    Calls Try.prog 21 #[.string s] w fun e w' => e = .returned (.bool (nameB s)) ∧ Below w.heap.size w w' := by
  have cI := Index_c s w
  unfold nameB
  obtain ⟨i, hi⟩ : ∃ i, Lib.idxFunc (fun r => !letB r) true s = i := ⟨_, rfl⟩
  rw [hi] at cI ⊢
  clear hi
  obtain ⟨b1, e1⟩ : ∃ b, decide (i < 0) = b := ⟨_, rfl⟩
  obtain ⟨b2, e2⟩ : ∃ b, decide (1 ≤ s.size) = b := ⟨_, rfl⟩
  obtain ⟨b3, e3⟩ : ∃ b, decide (s.size ≤ 16) = b := ⟨_, rfl⟩
  have z2 : decide ((1 : Int) ≤ (s.size : Int)) = b2 := by rw [← e2]; congr 1; exact propext (by omega)
  have z3 : decide ((s.size : Int) ≤ 16) = b3 := by rw [← e3]; congr 1; exact propext (by omega)
  rw [e1, e2, e3]
  cases b1 <;> cases b2 <;> cases b3
  all_goals
    go_enter Try.func21, Try.ntmps21
    go_wp2_with (go_at_call 63; refine cI.mono ?_; rintro e w' ⟨rfl, hb⟩)
    go_ret
    exact ⟨rfl, hb⟩
end Go.Proofs.Ytgdpabedlghiaaa.Name
/- inode.Name, in the printed functions' form. -/
namespace Go.Proofs.Ytgdpabedlghiaaa.PZ
open Go.RowKit
def inode_Name.f (a0 : ByteArray) : Option (Bool) := some (Name.nameB a0)
theorem inode_Name.calls (a0 : ByteArray) (r : Bool) (w : World) (h : inode_Name.f a0 = some r) :
    Calls Try.prog 21 #[.string a0] w fun e w' => e = .returned (.bool r) ∧ Below w.heap.size w w' := by
  obtain rfl : Name.nameB a0 = r := Option.some.inj h
  exact Name.name_c a0 w
end Go.Proofs.Ytgdpabedlghiaaa.PZ
-- printed for this claim by a program (pall.sh)
-- mended by fixpz.py
namespace Go.Proofs.Ytgdpabedlghiaaa.PZ
open Go.RowKit Go.Proofs.YtgdpabedlghiaaaW.PrintWords Go.Proofs.YtgdpabedlghiaaaW.PrintLast Go.Proofs.YtgdpabedlghiaaaW.PrintMore
attribute [local go_sem] max2_int min2_int max_two min_two max_three min_three max_four min_four   -- for this text's walks alone
set_option linter.unusedVariables false
set_option linter.unusedSimpArgs false

/-! ### scope_fields: function 113 -/
mutual
def scope_fields.j0 : Nat → Bool → Int → ByteArray → Int → Int → List (S40) → Option (Bool)
 | 0, _, _, _, _, _, _ => none
 | k + 1, x3, x102000, x102001, x102002, x102003, x102004 => if x3 = true then (some false) else ((scope_named.f x102000).bind fun t102 => (if t102 = true then ((inode_Name.f x102001).bind fun t103 => (scope_fields.j1 k (!t103) x102000 x102001 x102002 x102003 x102004)) else (scope_fields.j1 k false x102000 x102001 x102002 x102003 x102004)))
def scope_fields.j1 : Nat → Bool → Int → ByteArray → Int → Int → List (S40) → Option (Bool)
 | 0, _, _, _, _, _, _ => none
 | k + 1, x12, x102000, x102001, x102002, x102003, x102004 => if x12 = true then (scope_fields.j2 k x12 x102000 x102001 x102002 x102003 x102004) else ((scope_named.f x102000).bind fun t104 => (if t104 = true then (scope_fields.j2 k false x102000 x102001 x102002 x102003 x102004) else (scope_fields.j2 k (x102001.toList != ([] : List UInt8)) x102000 x102001 x102002 x102003 x102004)))
def scope_fields.j2 : Nat → Bool → Int → ByteArray → Int → Int → List (S40) → Option (Bool)
 | 0, _, _, _, _, _, _ => none
 | k + 1, x12, x102000, x102001, x102002, x102003, x102004 => if x12 = true then (some false) else (if x102000 = 5 then (if x102002 ≥ 0 then (if x102002 ≤ x102003 then (some (decide (x102003 ≤ 1099511627776))) else (some false)) else (some false)) else (if x102002 = 0 then (some (x102003 == 0)) else (some false)))
end
def scope_fields.f (k : Nat) (a0_0 : Int) (a0_1 : ByteArray) (a0_2 : Int) (a0_3 : Int) (l0_4 : List (S40)) : Option (Bool) := if a0_0 < 1 then (scope_fields.j0 k true a0_0 a0_1 a0_2 a0_3 l0_4) else (scope_fields.j0 k (decide (a0_0 > 8)) a0_0 a0_1 a0_2 a0_3 l0_4)
set_option maxHeartbeats 8000000 in
set_option maxRecDepth 100000 in
theorem scope_fields.calls (k : Nat) (a0_0 : Int) (a0_1 : ByteArray) (a0_2 : Int) (a0_3 : Int) (A0_4 : Option Addr) (c0_4 : Nat) (l0_4 : List (S40)) (r : Bool) (w : World) (hr0_4 : Kd.C k40 w A0_4 l0_4.length l0_4) (hc0_4 : l0_4.length ≤ c0_4) (h : scope_fields.f k a0_0 a0_1 a0_2 a0_3 l0_4 = some r) :
  Calls Try.prog 113 #[.agg #[.int .i64 a0_0, .string a0_1, .int .i64 a0_2, .int .i64 a0_3, .slice A0_4 l0_4.length c0_4]] w fun e w' => e = .returned (.bool r) ∧ Below w.heap.size w w' := by
 have hu40 := Try.underlying40
 have HR0_4 := Aside0.mk hr0_4
 have HC0_4 := Aside0.mk hc0_4
 clear hr0_4 hc0_4
 have HB := Aside0.mk (Below.refl w.heap.size w)
 have H : (if a0_0 < 1 then (scope_fields.j0 k true a0_0 a0_1 a0_2 a0_3 l0_4) else (scope_fields.j0 k (decide (a0_0 > 8)) a0_0 a0_1 a0_2 a0_3 l0_4)) = some r := h
 clear h
 have HC2 := Aside0.mk H
 clear H
 go_enter Try.func113, Try.ntmps113
 go_upto_region 1 with (first | ((with_reducible refine gate_dst (N := 1) rfl ?_); refine box_event ?hg (N := 1) ?hd (cs := #[.int .i64 a0_0, .string a0_1, .int .i64 a0_2, .int .i64 a0_3, .slice A0_4 l0_4.length c0_4]) (t := 40) ?hr ?_; (case hd => rfl); (case hg => rfl); (case hr => first | (go_simp; done) | (go_simp; rfl)); intro gb101 hg w3 hbox hb; have n0_ := Aside0.mk (below_step (by repeat (first | (with_reducible first | exact HB.out | apply below_alloc | apply pw_below_drewN | apply below_drew1) | exact HB.out)) hb); have n1_ := Aside0.mk (hbox); have n2_ := Aside0.mk ((by rw [hg]; exact (below_size (by repeat (first | (with_reducible first | exact HB.out | apply below_alloc | apply pw_below_drewN | apply below_drew1) | exact HB.out))) : w.heap.size ≤ gb101)); have n3_ := Aside0.mk ((by rw [hg]; exact (below_size (by repeat (first | (with_reducible first | exact HB.out | apply below_alloc | apply pw_below_drewN | apply below_drew1) | exact HB.out))) : w.heap.size ≤ gb101)); clear HB; have HB := n0_; have BK101 := n1_; have GW101 := n2_; have GE101 := n3_; clear n0_ n1_ n2_ n3_; clear hb hbox hg))
 (try simp only [Act.put, List.setIfInBounds_toArray, List.set_cons_zero, List.set_cons_succ])
 go_cut [3] (fun v3 wc => ∃ (kq : Nat) (x3_1 : Bool), v3 = .bool x3_1 ∧ Aside0 (scope_fields.j0 kq x3_1 a0_0 a0_1 a0_2 a0_3 l0_4 = some r) ∧ Aside0 (kq ≤ k) ∧ Aside0 (wc.heap[gb101]? = some (.cells #[.int .i64 a0_0, .string a0_1, .int .i64 a0_2, .int .i64 a0_3, (.slice A0_4 l0_4.length c0_4)] 40 (0, 0))) ∧ Aside0 (Below w.heap.size w wc))
 case first =>
  have H := HC2.out
  clear HC2
  by_cases c4 : a0_0 < 1
  ·rw [if_pos c4] at H
   have c4b0 : decide (a0_0 < 1) = true := decide_eq_true c4
   clear c4
   (first | rw [c4b0] | (simp only [i64_w, i32_w]; rw [c4b0]) | skip)
   have H' := Aside0.mk H
   clear H
   have hcz5_0 : w3.cell? ⟨gb101, 0, none⟩ = some (.int .i64 a0_0) := (blk_cell BK101.out 0).trans rfl
   have hcz5_1 : w3.cell? ⟨gb101, 1, none⟩ = some (.string a0_1) := (blk_cell BK101.out 1).trans rfl
   have hcz5_2 : w3.cell? ⟨gb101, 2, none⟩ = some (.int .i64 a0_2) := (blk_cell BK101.out 2).trans rfl
   have hcz5_3 : w3.cell? ⟨gb101, 3, none⟩ = some (.int .i64 a0_3) := (blk_cell BK101.out 3).trans rfl
   have hcz5_4 : w3.cell? ⟨gb101, 4, none⟩ = some (.slice A0_4 l0_4.length c0_4) := (blk_cell BK101.out 4).trans rfl
   have hfz5_0 := blk_frozen BK101.out 0
   have hfz5_1 := blk_frozen BK101.out 1
   have hfz5_2 := blk_frozen BK101.out 2
   have hfz5_3 := blk_frozen BK101.out 3
   have hfz5_4 := blk_frozen BK101.out 4
   go_wp2
   go_meet
   case rel => exact ⟨_, (true), (by first | rfl | (simp; done) | (simp [*]; done) | (simp [*]; exact (show ∀ l_ : List UInt8, l_.isEmpty = !(l_ != []) from fun l_ => by cases l_ <;> rfl) _)), H', ⟨by first | omega | exact Nat.le_refl _⟩, ⟨by (with_reducible repeat (first | refine blk_drewN ?_ _ | refine blk_drew ?_ | refine blk_alloc ?_ _)); exact BK101.out⟩, ⟨by repeat (first | (with_reducible first | exact HB.out | apply below_alloc | apply pw_below_drewN | apply below_drew1 | refine below_set ?_ GE101.out) | exact HB.out)⟩⟩
  ·rw [if_neg c4] at H
   have c4b0 : decide (a0_0 < 1) = false := decide_eq_false c4
   clear c4
   (first | rw [c4b0] | (simp only [i64_w, i32_w]; rw [c4b0]) | skip)
   have H' := Aside0.mk H
   clear H
   have hcz6_0 : w3.cell? ⟨gb101, 0, none⟩ = some (.int .i64 a0_0) := (blk_cell BK101.out 0).trans rfl
   have hcz6_1 : w3.cell? ⟨gb101, 1, none⟩ = some (.string a0_1) := (blk_cell BK101.out 1).trans rfl
   have hcz6_2 : w3.cell? ⟨gb101, 2, none⟩ = some (.int .i64 a0_2) := (blk_cell BK101.out 2).trans rfl
   have hcz6_3 : w3.cell? ⟨gb101, 3, none⟩ = some (.int .i64 a0_3) := (blk_cell BK101.out 3).trans rfl
   have hcz6_4 : w3.cell? ⟨gb101, 4, none⟩ = some (.slice A0_4 l0_4.length c0_4) := (blk_cell BK101.out 4).trans rfl
   have hfz6_0 := blk_frozen BK101.out 0
   have hfz6_1 := blk_frozen BK101.out 1
   have hfz6_2 := blk_frozen BK101.out 2
   have hfz6_3 := blk_frozen BK101.out 3
   have hfz6_4 := blk_frozen BK101.out 4
   go_wp2
   go_meet
   case rel => exact ⟨_, (decide (a0_0 > 8)), (by first | rfl | (simp; done) | (simp [*]; done) | (simp [*]; exact (show ∀ l_ : List UInt8, l_.isEmpty = !(l_ != []) from fun l_ => by cases l_ <;> rfl) _)), H', ⟨by first | omega | exact Nat.le_refl _⟩, ⟨by (with_reducible repeat (first | refine blk_drewN ?_ _ | refine blk_drew ?_ | refine blk_alloc ?_ _)); exact BK101.out⟩, ⟨by repeat (first | (with_reducible first | exact HB.out | apply below_alloc | apply pw_below_drewN | apply below_drew1 | refine below_set ?_ GE101.out) | exact HB.out)⟩⟩
 case rest =>
  clear HC2
  (try clear c1);(try clear p2);(try clear c4);(try clear c4b0);(try clear hcz5_0);(try clear hcz5_1);(try clear hcz5_2);(try clear hcz5_3);(try clear hcz5_4);(try clear hcz6_0);(try clear hcz6_1);(try clear hcz6_2);(try clear hcz6_3);(try clear hcz6_4);(try clear hfz5_0);(try clear hfz5_1);(try clear hfz5_2);(try clear hfz5_3);(try clear hfz5_4);(try clear hfz6_0);(try clear hfz6_1);(try clear hfz6_2);(try clear hfz6_3);(try clear hfz6_4)
  obtain ⟨kq, x3_1, rfl, HA, HJ1, BK101, HB⟩ := hcut
  cases kq with
  | zero => exact absurd HA.out (by simp [scope_fields.j0])
  | succ kj1 =>
   have H := HA.out
   clear HA
   simp only [scope_fields.j0] at H
   by_cases c7 : x3_1 = true
   ·subst c7
    have H1 : (some false) = some r := by rw [if_pos rfl] at H; exact H
    clear H
    have H := H1
    clear H1
    obtain rfl := Option.some.inj H
    go_wp2
    go_ret
    exact ⟨by first | rfl | (simp [errW_none, errW_some] <;> rfl) | (simp [*, errW_none, errW_some] <;> rfl), by repeat (first | (with_reducible first | exact HB.out | apply below_alloc | apply pw_below_drewN | apply below_drew1 | refine below_set ?_ GE101.out) | exact HB.out)⟩
   ·replace c7 := Bool.eq_false_iff.mpr c7
    subst c7
    have H1 : ((scope_named.f a0_0).bind fun t102 => (if t102 = true then ((inode_Name.f a0_1).bind fun t103 => (scope_fields.j1 kj1 (!t103) a0_0 a0_1 a0_2 a0_3 l0_4)) else (scope_fields.j1 kj1 false a0_0 a0_1 a0_2 a0_3 l0_4))) = some r := by rw [if_neg (show ¬ (false = true) by decide)] at H; exact H
    clear H
    have H := H1
    clear H1
    have HC8 := Aside0.mk H
    clear H
    go_upto_region 3 with (fail)
    go_cut [12] (fun v12 wc => ∃ (kq : Nat) (x12_7 : Bool), v12 = .bool x12_7 ∧ Aside0 (scope_fields.j1 kq x12_7 a0_0 a0_1 a0_2 a0_3 l0_4 = some r) ∧ Aside0 (kq ≤ kj1) ∧ Aside0 (wc.heap[gb101]? = some (.cells #[.int .i64 a0_0, .string a0_1, .int .i64 a0_2, .int .i64 a0_3, (.slice A0_4 l0_4.length c0_4)] 40 (0, 0))) ∧ Aside0 (Below w.heap.size w wc))
    case first =>
     have H := HC8.out
     clear HC8
     replace H := Option.bind_eq_some_iff.mp H
     obtain ⟨t102, A90, H⟩ := H
     replace H : (if t102 = true then ((inode_Name.f a0_1).bind fun t103 => (scope_fields.j1 kj1 (!t103) a0_0 a0_1 a0_2 a0_3 l0_4)) else (scope_fields.j1 kj1 false a0_0 a0_1 a0_2 a0_3 l0_4)) = some r := H
     have A9 := Aside0.mk A90
     clear A90
     by_cases c10 : t102 = true
     ·subst c10
      have H1 : ((inode_Name.f a0_1).bind fun t103 => (scope_fields.j1 kj1 (!t103) a0_0 a0_1 a0_2 a0_3 l0_4)) = some r := by rw [if_pos rfl] at H; exact H
      clear H
      have H := H1
      clear H1
      replace H := Option.bind_eq_some_iff.mp H
      obtain ⟨t103, A110, H⟩ := H
      replace H : (scope_fields.j1 kj1 (!t103) a0_0 a0_1 a0_2 a0_3 l0_4) = some r := H
      have A11 := Aside0.mk A110
      clear A110
      have H' := Aside0.mk H
      clear H
      have hcz12_0 : wc.cell? ⟨gb101, 0, none⟩ = some (.int .i64 a0_0) := (blk_cell BK101.out 0).trans rfl
      have hcz12_1 : wc.cell? ⟨gb101, 1, none⟩ = some (.string a0_1) := (blk_cell BK101.out 1).trans rfl
      have hcz12_2 : wc.cell? ⟨gb101, 2, none⟩ = some (.int .i64 a0_2) := (blk_cell BK101.out 2).trans rfl
      have hcz12_3 : wc.cell? ⟨gb101, 3, none⟩ = some (.int .i64 a0_3) := (blk_cell BK101.out 3).trans rfl
      have hcz12_4 : wc.cell? ⟨gb101, 4, none⟩ = some (.slice A0_4 l0_4.length c0_4) := (blk_cell BK101.out 4).trans rfl
      have hfz12_0 := blk_frozen BK101.out 0
      have hfz12_1 := blk_frozen BK101.out 1
      have hfz12_2 := blk_frozen BK101.out 2
      have hfz12_3 := blk_frozen BK101.out 3
      have hfz12_4 := blk_frozen BK101.out 4
      go_wp2_with (first | ((with_reducible refine gate_callee (f := 109) rfl ?_); refine goesL_ (some 15) rfl rfl Try.func109 (by kernel_rfl) rfl #[.int .i64 a0_0] rfl (by (try simp only [List.map_toArray, List.map_cons, List.map_nil]); first | done | rfl | (simp only [List.length_drop, List.length_take]; rfl)) ?_; (with_reducible refine (scope_named.calls a0_0 true _ A9.out).mono ?_); rintro e w' ⟨rfl, ⟨nd, rfl⟩⟩; refine ⟨_, rfl, ?_⟩) | (go_at_call 21; (with_reducible refine (inode_Name.calls a0_1 t103 _ A11.out).mono ?_); rintro e w13 ⟨rfl, hb⟩; have n0_ := Aside0.mk (blk_below (g := gb101) (o := .cells #[.int .i64 a0_0, .string a0_1, .int .i64 a0_2, .int .i64 a0_3, .slice A0_4 l0_4.length c0_4] 40 (0, 0)) (by (with_reducible repeat (first | refine blk_drewN ?_ _ | refine blk_drew ?_ | refine blk_alloc ?_ _)); exact BK101.out) hb); have n1_ := Aside0.mk (below_step (by repeat (first | (with_reducible first | exact HB.out | apply below_alloc | apply pw_below_drewN | apply below_drew1 | refine below_set ?_ GE101.out) | exact HB.out)) hb); clear BK101; clear HB; have BK101 := n0_; have HB := n1_; clear n0_ n1_; (try clear hb); (try clear hb2); (try clear hk); (try clear hi)))
      go_meet
      case rel => exact ⟨_, (!t103), (by first | rfl | (simp; done) | (simp [*]; done) | (simp [*]; exact (show ∀ l_ : List UInt8, l_.isEmpty = !(l_ != []) from fun l_ => by cases l_ <;> rfl) _)), H', ⟨by have := HJ1.out; first | omega | exact Nat.le_refl _⟩, ⟨by (with_reducible repeat (first | refine blk_drewN ?_ _ | refine blk_drew ?_ | refine blk_alloc ?_ _)); exact BK101.out⟩, ⟨by repeat (first | (with_reducible first | exact HB.out | apply below_alloc | apply pw_below_drewN | apply below_drew1 | refine below_set ?_ GE101.out) | exact HB.out)⟩⟩
     ·replace c10 := Bool.eq_false_iff.mpr c10
      subst c10
      have H1 : (scope_fields.j1 kj1 false a0_0 a0_1 a0_2 a0_3 l0_4) = some r := by rw [if_neg (show ¬ (false = true) by decide)] at H; exact H
      clear H
      have H := H1
      clear H1
      have H' := Aside0.mk H
      clear H
      have hcz14_0 : wc.cell? ⟨gb101, 0, none⟩ = some (.int .i64 a0_0) := (blk_cell BK101.out 0).trans rfl
      have hcz14_1 : wc.cell? ⟨gb101, 1, none⟩ = some (.string a0_1) := (blk_cell BK101.out 1).trans rfl
      have hcz14_2 : wc.cell? ⟨gb101, 2, none⟩ = some (.int .i64 a0_2) := (blk_cell BK101.out 2).trans rfl
      have hcz14_3 : wc.cell? ⟨gb101, 3, none⟩ = some (.int .i64 a0_3) := (blk_cell BK101.out 3).trans rfl
      have hcz14_4 : wc.cell? ⟨gb101, 4, none⟩ = some (.slice A0_4 l0_4.length c0_4) := (blk_cell BK101.out 4).trans rfl
      have hfz14_0 := blk_frozen BK101.out 0
      have hfz14_1 := blk_frozen BK101.out 1
      have hfz14_2 := blk_frozen BK101.out 2
      have hfz14_3 := blk_frozen BK101.out 3
      have hfz14_4 := blk_frozen BK101.out 4
      go_wp2_with (first | ((with_reducible refine gate_callee (f := 109) rfl ?_); refine goesL_ (some 15) rfl rfl Try.func109 (by kernel_rfl) rfl #[.int .i64 a0_0] rfl (by (try simp only [List.map_toArray, List.map_cons, List.map_nil]); first | done | rfl | (simp only [List.length_drop, List.length_take]; rfl)) ?_; (with_reducible refine (scope_named.calls a0_0 false _ A9.out).mono ?_); rintro e w' ⟨rfl, ⟨nd, rfl⟩⟩; refine ⟨_, rfl, ?_⟩))
      go_meet
      case rel => exact ⟨_, (false), (by first | rfl | (simp; done) | (simp [*]; done) | (simp [*]; exact (show ∀ l_ : List UInt8, l_.isEmpty = !(l_ != []) from fun l_ => by cases l_ <;> rfl) _)), H', ⟨by have := HJ1.out; first | omega | exact Nat.le_refl _⟩, ⟨by (with_reducible repeat (first | refine blk_drewN ?_ _ | refine blk_drew ?_ | refine blk_alloc ?_ _)); exact BK101.out⟩, ⟨by repeat (first | (with_reducible first | exact HB.out | apply below_alloc | apply pw_below_drewN | apply below_drew1 | refine below_set ?_ GE101.out) | exact HB.out)⟩⟩
    case rest =>
     clear HC8
     (try clear c1);(try clear p2);(try clear c4);(try clear c4b0);(try clear c7);(try clear c10);(try clear c11);(try clear hcz12_0);(try clear hcz12_1);(try clear hcz12_2);(try clear hcz12_3);(try clear hcz12_4);(try clear hcz14_0);(try clear hcz14_1);(try clear hcz14_2);(try clear hcz14_3);(try clear hcz14_4);(try clear hcz5_0);(try clear hcz5_1);(try clear hcz5_2);(try clear hcz5_3);(try clear hcz5_4);(try clear hcz6_0);(try clear hcz6_1);(try clear hcz6_2);(try clear hcz6_3);(try clear hcz6_4);(try clear hfz12_0);(try clear hfz12_1);(try clear hfz12_2);(try clear hfz12_3);(try clear hfz12_4);(try clear hfz14_0);(try clear hfz14_1);(try clear hfz14_2);(try clear hfz14_3);(try clear hfz14_4);(try clear hfz5_0);(try clear hfz5_1);(try clear hfz5_2);(try clear hfz5_3);(try clear hfz5_4);(try clear hfz6_0);(try clear hfz6_1);(try clear hfz6_2);(try clear hfz6_3);(try clear hfz6_4);(try clear p2)
     obtain ⟨kq, x12_7, rfl, HA, HJ7, BK101, HB⟩ := hcut
     cases kq with
     | zero => exact absurd HA.out (by simp [scope_fields.j1])
     | succ kj7 =>
      have H := HA.out
      clear HA
      simp only [scope_fields.j1] at H
      have HC15 := Aside0.mk H
      clear H
      go_upto_if 12 with (fail)
      go_cut [12] (fun v12 wc => ∃ (kq : Nat) (x12_14 : Bool), v12 = .bool x12_14 ∧ Aside0 (scope_fields.j2 kq x12_14 a0_0 a0_1 a0_2 a0_3 l0_4 = some r) ∧ Aside0 (kq ≤ kj7) ∧ Aside0 (wc.heap[gb101]? = some (.cells #[.int .i64 a0_0, .string a0_1, .int .i64 a0_2, .int .i64 a0_3, (.slice A0_4 l0_4.length c0_4)] 40 (0, 0))) ∧ Aside0 (Below w.heap.size w wc))
      case first =>
       have H := HC15.out
       clear HC15
       by_cases c16 : x12_7 = true
       ·subst c16
        have H1 : (scope_fields.j2 kj7 true a0_0 a0_1 a0_2 a0_3 l0_4) = some r := by rw [if_pos rfl] at H; exact H
        clear H
        have H := H1
        clear H1
        have H' := Aside0.mk H
        clear H
        go_wp2
        go_meet
        case rel => exact ⟨_, (true), (by first | rfl | (simp; done) | (simp [*]; done) | (simp [*]; exact (show ∀ l_ : List UInt8, l_.isEmpty = !(l_ != []) from fun l_ => by cases l_ <;> rfl) _)), H', ⟨by have := HJ1.out; have := HJ7.out; first | omega | exact Nat.le_refl _⟩, ⟨by (with_reducible repeat (first | refine blk_drewN ?_ _ | refine blk_drew ?_ | refine blk_alloc ?_ _)); exact BK101.out⟩, ⟨by repeat (first | (with_reducible first | exact HB.out | apply below_alloc | apply pw_below_drewN | apply below_drew1 | refine below_set ?_ GE101.out) | exact HB.out)⟩⟩
       ·replace c16 := Bool.eq_false_iff.mpr c16
        subst c16
        have H1 : ((scope_named.f a0_0).bind fun t104 => (if t104 = true then (scope_fields.j2 kj7 false a0_0 a0_1 a0_2 a0_3 l0_4) else (scope_fields.j2 kj7 (a0_1.toList != ([] : List UInt8)) a0_0 a0_1 a0_2 a0_3 l0_4))) = some r := by rw [if_neg (show ¬ (false = true) by decide)] at H; exact H
        clear H
        have H := H1
        clear H1
        replace H := Option.bind_eq_some_iff.mp H
        obtain ⟨t104, A170, H⟩ := H
        replace H : (if t104 = true then (scope_fields.j2 kj7 false a0_0 a0_1 a0_2 a0_3 l0_4) else (scope_fields.j2 kj7 (a0_1.toList != ([] : List UInt8)) a0_0 a0_1 a0_2 a0_3 l0_4)) = some r := H
        have A17 := Aside0.mk A170
        clear A170
        by_cases c18 : t104 = true
        ·subst c18
         have H1 : (scope_fields.j2 kj7 false a0_0 a0_1 a0_2 a0_3 l0_4) = some r := by rw [if_pos rfl] at H; exact H
         clear H
         have H := H1
         clear H1
         have H' := Aside0.mk H
         clear H
         have hcz19_0 : wc.cell? ⟨gb101, 0, none⟩ = some (.int .i64 a0_0) := (blk_cell BK101.out 0).trans rfl
         have hcz19_1 : wc.cell? ⟨gb101, 1, none⟩ = some (.string a0_1) := (blk_cell BK101.out 1).trans rfl
         have hcz19_2 : wc.cell? ⟨gb101, 2, none⟩ = some (.int .i64 a0_2) := (blk_cell BK101.out 2).trans rfl
         have hcz19_3 : wc.cell? ⟨gb101, 3, none⟩ = some (.int .i64 a0_3) := (blk_cell BK101.out 3).trans rfl
         have hcz19_4 : wc.cell? ⟨gb101, 4, none⟩ = some (.slice A0_4 l0_4.length c0_4) := (blk_cell BK101.out 4).trans rfl
         have hfz19_0 := blk_frozen BK101.out 0
         have hfz19_1 := blk_frozen BK101.out 1
         have hfz19_2 := blk_frozen BK101.out 2
         have hfz19_3 := blk_frozen BK101.out 3
         have hfz19_4 := blk_frozen BK101.out 4
         go_wp2_with (first | ((with_reducible refine gate_callee (f := 109) rfl ?_); refine goesL_ (some 24) rfl rfl Try.func109 (by kernel_rfl) rfl #[.int .i64 a0_0] rfl (by (try simp only [List.map_toArray, List.map_cons, List.map_nil]); first | done | rfl | (simp only [List.length_drop, List.length_take]; rfl)) ?_; (with_reducible refine (scope_named.calls a0_0 true _ A17.out).mono ?_); rintro e w' ⟨rfl, ⟨nd, rfl⟩⟩; refine ⟨_, rfl, ?_⟩))
         go_meet
         case rel => exact ⟨_, (false), (by first | rfl | (simp; done) | (simp [*]; done) | (simp [*]; exact (show ∀ l_ : List UInt8, l_.isEmpty = !(l_ != []) from fun l_ => by cases l_ <;> rfl) _)), H', ⟨by have := HJ1.out; have := HJ7.out; first | omega | exact Nat.le_refl _⟩, ⟨by (with_reducible repeat (first | refine blk_drewN ?_ _ | refine blk_drew ?_ | refine blk_alloc ?_ _)); exact BK101.out⟩, ⟨by repeat (first | (with_reducible first | exact HB.out | apply below_alloc | apply pw_below_drewN | apply below_drew1 | refine below_set ?_ GE101.out) | exact HB.out)⟩⟩
        ·replace c18 := Bool.eq_false_iff.mpr c18
         subst c18
         have H1 : (scope_fields.j2 kj7 (a0_1.toList != ([] : List UInt8)) a0_0 a0_1 a0_2 a0_3 l0_4) = some r := by rw [if_neg (show ¬ (false = true) by decide)] at H; exact H
         clear H
         have H := H1
         clear H1
         have H' := Aside0.mk H
         clear H
         have hcz20_0 : wc.cell? ⟨gb101, 0, none⟩ = some (.int .i64 a0_0) := (blk_cell BK101.out 0).trans rfl
         have hcz20_1 : wc.cell? ⟨gb101, 1, none⟩ = some (.string a0_1) := (blk_cell BK101.out 1).trans rfl
         have hcz20_2 : wc.cell? ⟨gb101, 2, none⟩ = some (.int .i64 a0_2) := (blk_cell BK101.out 2).trans rfl
         have hcz20_3 : wc.cell? ⟨gb101, 3, none⟩ = some (.int .i64 a0_3) := (blk_cell BK101.out 3).trans rfl
         have hcz20_4 : wc.cell? ⟨gb101, 4, none⟩ = some (.slice A0_4 l0_4.length c0_4) := (blk_cell BK101.out 4).trans rfl
         have hfz20_0 := blk_frozen BK101.out 0
         have hfz20_1 := blk_frozen BK101.out 1
         have hfz20_2 := blk_frozen BK101.out 2
         have hfz20_3 := blk_frozen BK101.out 3
         have hfz20_4 := blk_frozen BK101.out 4
         go_wp2_with (first | ((with_reducible refine gate_callee (f := 109) rfl ?_); refine goesL_ (some 24) rfl rfl Try.func109 (by kernel_rfl) rfl #[.int .i64 a0_0] rfl (by (try simp only [List.map_toArray, List.map_cons, List.map_nil]); first | done | rfl | (simp only [List.length_drop, List.length_take]; rfl)) ?_; (with_reducible refine (scope_named.calls a0_0 false _ A17.out).mono ?_); rintro e w' ⟨rfl, ⟨nd, rfl⟩⟩; refine ⟨_, rfl, ?_⟩))
         go_meet
         case rel => exact ⟨_, ((a0_1.toList != ([] : List UInt8))), (by first | rfl | (simp; done) | (simp [*]; done) | (simp [*]; exact (show ∀ l_ : List UInt8, l_.isEmpty = !(l_ != []) from fun l_ => by cases l_ <;> rfl) _)), H', ⟨by have := HJ1.out; have := HJ7.out; first | omega | exact Nat.le_refl _⟩, ⟨by (with_reducible repeat (first | refine blk_drewN ?_ _ | refine blk_drew ?_ | refine blk_alloc ?_ _)); exact BK101.out⟩, ⟨by repeat (first | (with_reducible first | exact HB.out | apply below_alloc | apply pw_below_drewN | apply below_drew1 | refine below_set ?_ GE101.out) | exact HB.out)⟩⟩
      case rest =>
       clear HC15
       (try clear c1);(try clear p2);(try clear c4);(try clear c4b0);(try clear c7);(try clear c10);(try clear c11);(try clear c16);(try clear c18);(try clear hcz12_0);(try clear hcz12_1);(try clear hcz12_2);(try clear hcz12_3);(try clear hcz12_4);(try clear hcz14_0);(try clear hcz14_1);(try clear hcz14_2);(try clear hcz14_3);(try clear hcz14_4);(try clear hcz19_0);(try clear hcz19_1);(try clear hcz19_2);(try clear hcz19_3);(try clear hcz19_4);(try clear hcz20_0);(try clear hcz20_1);(try clear hcz20_2);(try clear hcz20_3);(try clear hcz20_4);(try clear hcz5_0);(try clear hcz5_1);(try clear hcz5_2);(try clear hcz5_3);(try clear hcz5_4);(try clear hcz6_0);(try clear hcz6_1);(try clear hcz6_2);(try clear hcz6_3);(try clear hcz6_4);(try clear hfz12_0);(try clear hfz12_1);(try clear hfz12_2);(try clear hfz12_3);(try clear hfz12_4);(try clear hfz14_0);(try clear hfz14_1);(try clear hfz14_2);(try clear hfz14_3);(try clear hfz14_4);(try clear hfz19_0);(try clear hfz19_1);(try clear hfz19_2);(try clear hfz19_3);(try clear hfz19_4);(try clear hfz20_0);(try clear hfz20_1);(try clear hfz20_2);(try clear hfz20_3);(try clear hfz20_4);(try clear hfz5_0);(try clear hfz5_1);(try clear hfz5_2);(try clear hfz5_3);(try clear hfz5_4);(try clear hfz6_0);(try clear hfz6_1);(try clear hfz6_2);(try clear hfz6_3);(try clear hfz6_4);(try clear p2)
       obtain ⟨kq, x12_14, rfl, HA, HJ14, BK101, HB⟩ := hcut
       cases kq with
       | zero => exact absurd HA.out (by simp [scope_fields.j2])
       | succ kj14 =>
        have H := HA.out
        clear HA
        simp only [scope_fields.j2] at H
        by_cases c21 : x12_14 = true
        ·subst c21
         have H1 : (some false) = some r := by rw [if_pos rfl] at H; exact H
         clear H
         have H := H1
         clear H1
         obtain rfl := Option.some.inj H
         go_wp2
         go_ret
         exact ⟨by first | rfl | (simp [errW_none, errW_some] <;> rfl) | (simp [*, errW_none, errW_some] <;> rfl), by repeat (first | (with_reducible first | exact HB.out | apply below_alloc | apply pw_below_drewN | apply below_drew1 | refine below_set ?_ GE101.out) | exact HB.out)⟩
        ·replace c21 := Bool.eq_false_iff.mpr c21
         subst c21
         have H1 : (if a0_0 = 5 then (if a0_2 ≥ 0 then (if a0_2 ≤ a0_3 then (some (decide (a0_3 ≤ 1099511627776))) else (some false)) else (some false)) else (if a0_2 = 0 then (some (a0_3 == 0)) else (some false))) = some r := by rw [if_neg (show ¬ (false = true) by decide)] at H; exact H
         clear H
         have H := H1
         clear H1
         by_cases c22 : a0_0 = 5
         ·rw [if_pos c22] at H
          have c22b0 : (a0_0 == 5) = true := beq_iff_eq.mpr c22
          have c22b1 : (a0_0 != 5) = false := bne_eq_false_iff_eq.mpr c22
          clear c22
          by_cases c23 : a0_2 ≥ 0
          ·rw [if_pos c23] at H
           have c23b0 : decide (0 ≤ a0_2) = true := decide_eq_true c23
           clear c23
           by_cases c24 : a0_2 ≤ a0_3
           ·rw [if_pos c24] at H
            have c24b0 : decide (a0_2 ≤ a0_3) = true := decide_eq_true c24
            clear c24
            obtain rfl := Option.some.inj H
            have hcz25_0 : wc.cell? ⟨gb101, 0, none⟩ = some (.int .i64 a0_0) := (blk_cell BK101.out 0).trans rfl
            have hcz25_1 : wc.cell? ⟨gb101, 1, none⟩ = some (.string a0_1) := (blk_cell BK101.out 1).trans rfl
            have hcz25_2 : wc.cell? ⟨gb101, 2, none⟩ = some (.int .i64 a0_2) := (blk_cell BK101.out 2).trans rfl
            have hcz25_3 : wc.cell? ⟨gb101, 3, none⟩ = some (.int .i64 a0_3) := (blk_cell BK101.out 3).trans rfl
            have hcz25_4 : wc.cell? ⟨gb101, 4, none⟩ = some (.slice A0_4 l0_4.length c0_4) := (blk_cell BK101.out 4).trans rfl
            have hfz25_0 := blk_frozen BK101.out 0
            have hfz25_1 := blk_frozen BK101.out 1
            have hfz25_2 := blk_frozen BK101.out 2
            have hfz25_3 := blk_frozen BK101.out 3
            have hfz25_4 := blk_frozen BK101.out 4
            go_wp2
            go_ret
            exact ⟨by first | rfl | (simp [errW_none, errW_some] <;> rfl) | (simp [*, errW_none, errW_some] <;> rfl), by repeat (first | (with_reducible first | exact HB.out | apply below_alloc | apply pw_below_drewN | apply below_drew1 | refine below_set ?_ GE101.out) | exact HB.out)⟩
           ·rw [if_neg c24] at H
            have c24b0 : decide (a0_2 ≤ a0_3) = false := decide_eq_false c24
            clear c24
            obtain rfl := Option.some.inj H
            have hcz26_0 : wc.cell? ⟨gb101, 0, none⟩ = some (.int .i64 a0_0) := (blk_cell BK101.out 0).trans rfl
            have hcz26_1 : wc.cell? ⟨gb101, 1, none⟩ = some (.string a0_1) := (blk_cell BK101.out 1).trans rfl
            have hcz26_2 : wc.cell? ⟨gb101, 2, none⟩ = some (.int .i64 a0_2) := (blk_cell BK101.out 2).trans rfl
            have hcz26_3 : wc.cell? ⟨gb101, 3, none⟩ = some (.int .i64 a0_3) := (blk_cell BK101.out 3).trans rfl
            have hcz26_4 : wc.cell? ⟨gb101, 4, none⟩ = some (.slice A0_4 l0_4.length c0_4) := (blk_cell BK101.out 4).trans rfl
            have hfz26_0 := blk_frozen BK101.out 0
            have hfz26_1 := blk_frozen BK101.out 1
            have hfz26_2 := blk_frozen BK101.out 2
            have hfz26_3 := blk_frozen BK101.out 3
            have hfz26_4 := blk_frozen BK101.out 4
            go_wp2
            go_ret
            exact ⟨by first | rfl | (simp [errW_none, errW_some] <;> rfl) | (simp [*, errW_none, errW_some] <;> rfl), by repeat (first | (with_reducible first | exact HB.out | apply below_alloc | apply pw_below_drewN | apply below_drew1 | refine below_set ?_ GE101.out) | exact HB.out)⟩
          ·rw [if_neg c23] at H
           have c23b0 : decide (0 ≤ a0_2) = false := decide_eq_false c23
           clear c23
           obtain rfl := Option.some.inj H
           have hcz27_0 : wc.cell? ⟨gb101, 0, none⟩ = some (.int .i64 a0_0) := (blk_cell BK101.out 0).trans rfl
           have hcz27_1 : wc.cell? ⟨gb101, 1, none⟩ = some (.string a0_1) := (blk_cell BK101.out 1).trans rfl
           have hcz27_2 : wc.cell? ⟨gb101, 2, none⟩ = some (.int .i64 a0_2) := (blk_cell BK101.out 2).trans rfl
           have hcz27_3 : wc.cell? ⟨gb101, 3, none⟩ = some (.int .i64 a0_3) := (blk_cell BK101.out 3).trans rfl
           have hcz27_4 : wc.cell? ⟨gb101, 4, none⟩ = some (.slice A0_4 l0_4.length c0_4) := (blk_cell BK101.out 4).trans rfl
           have hfz27_0 := blk_frozen BK101.out 0
           have hfz27_1 := blk_frozen BK101.out 1
           have hfz27_2 := blk_frozen BK101.out 2
           have hfz27_3 := blk_frozen BK101.out 3
           have hfz27_4 := blk_frozen BK101.out 4
           go_wp2
           go_ret
           exact ⟨by first | rfl | (simp [errW_none, errW_some] <;> rfl) | (simp [*, errW_none, errW_some] <;> rfl), by repeat (first | (with_reducible first | exact HB.out | apply below_alloc | apply pw_below_drewN | apply below_drew1 | refine below_set ?_ GE101.out) | exact HB.out)⟩
         ·rw [if_neg c22] at H
          have c22b0 : (a0_0 == 5) = false := beq_eq_false_iff_ne.mpr c22
          have c22b1 : (a0_0 != 5) = true := bne_iff_ne.mpr c22
          by_cases c28 : a0_2 = 0
          ·rw [if_pos c28] at H
           have c28b0 : (a0_2 == 0) = true := beq_iff_eq.mpr c28
           have c28b1 : (a0_2 != 0) = false := bne_eq_false_iff_eq.mpr c28
           clear c28
           obtain rfl := Option.some.inj H
           have hcz29_0 : wc.cell? ⟨gb101, 0, none⟩ = some (.int .i64 a0_0) := (blk_cell BK101.out 0).trans rfl
           have hcz29_1 : wc.cell? ⟨gb101, 1, none⟩ = some (.string a0_1) := (blk_cell BK101.out 1).trans rfl
           have hcz29_2 : wc.cell? ⟨gb101, 2, none⟩ = some (.int .i64 a0_2) := (blk_cell BK101.out 2).trans rfl
           have hcz29_3 : wc.cell? ⟨gb101, 3, none⟩ = some (.int .i64 a0_3) := (blk_cell BK101.out 3).trans rfl
           have hcz29_4 : wc.cell? ⟨gb101, 4, none⟩ = some (.slice A0_4 l0_4.length c0_4) := (blk_cell BK101.out 4).trans rfl
           have hfz29_0 := blk_frozen BK101.out 0
           have hfz29_1 := blk_frozen BK101.out 1
           have hfz29_2 := blk_frozen BK101.out 2
           have hfz29_3 := blk_frozen BK101.out 3
           have hfz29_4 := blk_frozen BK101.out 4
           go_wp2
           go_ret
           exact ⟨by first | rfl | (simp [errW_none, errW_some] <;> rfl) | (simp [*, errW_none, errW_some] <;> rfl), by repeat (first | (with_reducible first | exact HB.out | apply below_alloc | apply pw_below_drewN | apply below_drew1 | refine below_set ?_ GE101.out) | exact HB.out)⟩
          ·rw [if_neg c28] at H
           have c28b0 : (a0_2 == 0) = false := beq_eq_false_iff_ne.mpr c28
           have c28b1 : (a0_2 != 0) = true := bne_iff_ne.mpr c28
           obtain rfl := Option.some.inj H
           have hcz30_0 : wc.cell? ⟨gb101, 0, none⟩ = some (.int .i64 a0_0) := (blk_cell BK101.out 0).trans rfl
           have hcz30_1 : wc.cell? ⟨gb101, 1, none⟩ = some (.string a0_1) := (blk_cell BK101.out 1).trans rfl
           have hcz30_2 : wc.cell? ⟨gb101, 2, none⟩ = some (.int .i64 a0_2) := (blk_cell BK101.out 2).trans rfl
           have hcz30_3 : wc.cell? ⟨gb101, 3, none⟩ = some (.int .i64 a0_3) := (blk_cell BK101.out 3).trans rfl
           have hcz30_4 : wc.cell? ⟨gb101, 4, none⟩ = some (.slice A0_4 l0_4.length c0_4) := (blk_cell BK101.out 4).trans rfl
           have hfz30_0 := blk_frozen BK101.out 0
           have hfz30_1 := blk_frozen BK101.out 1
           have hfz30_2 := blk_frozen BK101.out 2
           have hfz30_3 := blk_frozen BK101.out 3
           have hfz30_4 := blk_frozen BK101.out 4
           go_wp2
           go_ret
           exact ⟨by first | rfl | (simp [errW_none, errW_some] <;> rfl) | (simp [*, errW_none, errW_some] <;> rfl), by repeat (first | (with_reducible first | exact HB.out | apply below_alloc | apply pw_below_drewN | apply below_drew1 | refine below_set ?_ GE101.out) | exact HB.out)⟩

end Go.Proofs.Ytgdpabedlghiaaa.PZ
