/- Own and printed texts, laid together. -/
import Derived.Test.YtgdpabedlghiaaaProg
import Derived.Below
import Derived.Deep.Draws
import Derived.Deep.AppendLies
import Derived.Maps.AppendAt
import Derived.OwnWalk
import Derived.Laws.BytesArg
import Derived.Laws.MakeOwn
import Derived.Laws.OwnMore
import Derived.Deep.OwnRows
import Derived.Tactics
import Derived.Lib.ConvBytes
import Derived.Laws.Slices
import Derived.WalkKit
import Derived.KernelRfl
import Derived.RowKit3
import Derived.Deep.LoopGhost
import Derived.Deep.QuietTactic
import Derived.BigQuiet
import Derived.WideLaws
import Derived.Deep.DeepCutAuto
import Derived.Deep.CutBlock
import Derived.Deep.RegionHeld3
import Derived.Laws.Rows
import Derived.Lib.AppendStr
import Derived.ArgAppend
import Derived.Laws.IdiomCopy
import Derived.OrdersHeld
import Derived.Laws.BitsLemmas
import Derived.RowKit
import Derived.Test.YtgdpabedlghiaaaWWords
import Derived.Test.YtgdpabedlghiaaaWLast
import Derived.Test.YtgdpabedlghiaaaWTab
import Derived.Test.YtgdpabedlghiaaaWFour
import Derived.Test.YtgdpabedlghiaaaWQPut
import Derived.Test.YtgdpabedlghiaaaWApart
import Derived.Test.YtgdpabedlghiaaaWArr
import Derived.Test.YtgdpabedlghiaaaWZeros
import Derived.Test.YtgdpabedlghiaaaWFoot
import Derived.Test.YtgdpabedlghiaaaWKept
import Derived.Test.YtgdpabedlghiaaaWShare
import Derived.Test.YtgdpabedlghiaaaWN
import Derived.Test.YtgdpabedlghiaaaWFootNe
import Derived.Test.YtgdpabedlghiaaaWAt
import Derived.Test.YtgdpabedlghiaaaWEqStruct
import Derived.Test.YtgdpabedlghiaaaWRepsOne
import Derived.Test.YtgdpabedlghiaaaWInv
import Derived.Test.YtgdpabedlghiaaaWInvWords
import Derived.Test.YtgdpabedlghiaaaWGuard
import Derived.Test.YtgdpabedlghiaaaWNEv
import Derived.Test.YtgdpabedlghiaaaWMore
import Derived.Lib.SlBytesConst
import Derived.Laws.EntriesVeiled
import Derived.Shelf.GgClosure.StringsIndexFunc
-- printed for this claim by a program (pall.sh)
namespace Go.Proofs.Ytgdpabedlghiaaa.PZ
open Go.RowKit Go.Proofs.YtgdpabedlghiaaaW.PrintWords Go.Proofs.YtgdpabedlghiaaaW.PrintLast Go.Proofs.YtgdpabedlghiaaaW.PrintMore
attribute [local go_sem] max2_int min2_int max_two min_two max_three min_three max_four min_four   -- for this text's walks alone
set_option linter.unusedVariables false
set_option linter.unusedSimpArgs false



def errW : Option Int → Value
  | none => .nilIface
  | some c => .iface 0 (.int .i64 c)
theorem errW_none : errW none = .nilIface := rfl
theorem errW_some (c : Int) : errW (some c) = .iface 0 (.int .i64 c) := rfl

theorem info3 : (Try.prog.info? 3).map (fun i => (i.zero, i.size, i.bytes)) = some (some (.int .i64 0), 1, 8) := by kernel_rfl
theorem info5 : (Try.prog.info? 5).map (fun i => (i.zero, i.size, i.bytes)) = some (some (.int .u8 0), 1, 1) := by kernel_rfl
theorem info9 : (Try.prog.info? 9).map (fun i => (i.zero, i.size, i.bytes)) = some (some (.string ⟨#[]⟩), 1, 16) := by kernel_rfl
theorem info27 : (Try.prog.info? 27).map (fun i => (i.zero, i.size, i.bytes)) = some (some (.slice none 0 0), 1, 24) := by kernel_rfl
theorem info40 : (Try.prog.info? 40).map (fun i => (i.zero, i.size, i.bytes)) = some (some (.agg #[(.int .i64 0), (.string ⟨#[]⟩), (.int .i64 0), (.int .i64 0), (.slice none 0 0)]), 5, 64) := by kernel_rfl
theorem info52 : (Try.prog.info? 52).map (fun i => (i.zero, i.size, i.bytes)) = some (some (.agg #[(.string ⟨#[]⟩), (.int .i64 0), (.string ⟨#[]⟩), (.int .i64 0), (.int .i64 0), (.slice none 0 0), (.bool false)]), 7, 88) := by kernel_rfl
-- the values' own types
def rd_L2 (xs : List (List Int)) (i : Int) : (List Int) := xs.getD i.toNat ([] : List Int)
theorem at_L2 {w : World} {A : Option Addr} {n : Nat} {xs : List (List Int)} (h : Kd.C (Kd.slice 5 (Kd.int .u8)) w A n xs) (i : Int) (h0 : 0 ≤ i) (h1 : i < n) : ∃ ad A0 c0, A = some ad ∧ w.cell? (ad.add i.toNat) = some (.slice A0 (rd_L2 xs i).length c0) ∧ (rd_L2 xs i).length ≤ c0 ∧ (Kd.int .u8).C w A0 (rd_L2 xs i).length (rd_L2 xs i) := by
  obtain ⟨ad, c, e, _, hK, hc0⟩ := Kd.C_get h ([] : List Int) i h0 h1
  have hc : ∀ j u, c[j]? = some u → w.cell? (ad.add (i.toNat * 1 + j)) = some u := hc0
  obtain ⟨A0, c0, rfl, l0, g0⟩ := hK
  exact ⟨ad, A0, c0, e, by have hq := hc 0 _ rfl; rwa [Nat.mul_one, Nat.add_zero] at hq, l0, g0⟩

/-! #### struct type 40, nested in itself -/
structure S40 where
  f0 : Int
  f1 : ByteArray
  f2 : Int
  f3 : Int
  f4 : (List S40)
def z40 : S40 := ⟨(0 : Int), (⟨#[]⟩ : ByteArray), (0 : Int), (0 : Int), ([] : List S40)⟩
def F40 (d : Kd S40) : Kd S40 := Kd.iso (Kd.pair (Kd.int .i64) (Kd.pair Kd.string (Kd.pair (Kd.int .i64) (Kd.pair (Kd.int .i64) (Kd.slice 40 d))))) (fun x : S40 => (x.f0, x.f1, x.f2, x.f3, x.f4))
theorem mono40 : Kd.Mono F40 := Kd.mono_iso _ (Kd.mono_pair (Kd.mono_const _) (Kd.mono_pair (Kd.mono_const _) (Kd.mono_pair (Kd.mono_const _) (Kd.mono_pair (Kd.mono_const _) (Kd.mono_slice 40 Kd.mono_id)))))
theorem sub40 : Kd.Sub F40 [40] := Kd.sub_iso _ (Kd.sub_pair (Kd.sub_const _ (by decide)) (Kd.sub_pair (Kd.sub_const _ (by decide)) (Kd.sub_pair (Kd.sub_const _ (by decide)) (Kd.sub_pair (Kd.sub_const _ (by decide)) (Kd.sub_slice 40 (by decide) Kd.sub_id)))))
theorem sz40 : ∀ n, (Kd.upto F40 5 [40] n).sz = 5 := Kd.upto_sz (fun _ => rfl)
def k40 : Kd S40 := Kd.fix F40 5 [40] sz40 (Kd.upto_E sub40)
theorem k40_heap : Kd.Heap k40 := Kd.heap_fix (fun _ h_ => Kd.heap_iso _ (Kd.heap_pair (Kd.heap_int .i64) (Kd.heap_pair Kd.heap_string (Kd.heap_pair (Kd.heap_int .i64) (Kd.heap_pair (Kd.heap_int .i64) (Kd.heap_slice 40 h_))))))
theorem k40_open {w : World} {x : S40} {cs : List Value} (h : k40.K w x cs) : ∃ A4 c4, cs = [.int .i64 x.f0, .string x.f1, .int .i64 x.f2, .int .i64 x.f3, .slice A4 x.f4.length c4] ∧ x.f4.length ≤ c4 ∧ k40.C w A4 x.f4.length x.f4 := by
  obtain ⟨n, h⟩ := h
  cases n with
  | zero => exact h.elim
  | succ n =>
    obtain ⟨_, _, rfl, rfl, ⟨_, _, rfl, rfl, ⟨_, _, rfl, rfl, ⟨_, _, rfl, rfl, ⟨A4, c4, rfl, l4, g4⟩⟩⟩⟩⟩ := h
    exact ⟨A4, c4, rfl, l4, Kd.fix_C g4⟩
theorem k40_openM {w : World} {base : Nat} {ok : Nat → Prop} {x : S40} {cs : List Value} (h : k40.M w base ok x cs) : ∃ v4, cs = [.int .i64 x.f0, .string x.f1, .int .i64 x.f2, .int .i64 x.f3, v4] ∧ k40.R 40 w base ok v4 x.f4 := by
  obtain ⟨n, h⟩ := h
  cases n with
  | zero => exact h.elim
  | succ n =>
    obtain ⟨_, _, rfl, rfl, ⟨_, _, rfl, rfl, ⟨_, _, rfl, rfl, ⟨_, _, rfl, rfl, ⟨v4, rfl, g4⟩⟩⟩⟩⟩ := h
    exact ⟨v4, rfl, Kd.fix_R g4⟩
theorem k40_mk (w : World) (x : S40) {A4 : Option Addr} {c4 : Nat} (l4 : x.f4.length ≤ c4) (g4 : k40.C w A4 x.f4.length x.f4) : k40.K w x [.int .i64 x.f0, .string x.f1, .int .i64 x.f2, .int .i64 x.f3, .slice A4 x.f4.length c4] := by
  obtain ⟨n4, q4⟩ := Kd.fix_C_back mono40 g4
  have r4 := Kd.upto_C_le mono40 sz40 (show n4 ≤ n4 by omega) q4
  exact ⟨n4 + 1, ⟨[.int .i64 x.f0], [.string x.f1, .int .i64 x.f2, .int .i64 x.f3, .slice A4 x.f4.length c4], rfl, rfl, ⟨[.string x.f1], [.int .i64 x.f2, .int .i64 x.f3, .slice A4 x.f4.length c4], rfl, rfl, ⟨[.int .i64 x.f2], [.int .i64 x.f3, .slice A4 x.f4.length c4], rfl, rfl, ⟨[.int .i64 x.f3], [.slice A4 x.f4.length c4], rfl, rfl, ⟨A4, c4, rfl, l4, r4⟩⟩⟩⟩⟩⟩
theorem k40_mkM (w : World) (base : Nat) (ok : Nat → Prop) (x : S40) {v4 : Value} (g4 : k40.R 40 w base ok v4 x.f4) : k40.M w base ok x [.int .i64 x.f0, .string x.f1, .int .i64 x.f2, .int .i64 x.f3, v4] := by
  obtain ⟨n4, q4⟩ := Kd.fix_R_back mono40 g4
  have r4 := Kd.upto_R_le mono40 sz40 (show n4 ≤ n4 by omega) q4
  exact ⟨n4 + 1, ⟨[.int .i64 x.f0], [.string x.f1, .int .i64 x.f2, .int .i64 x.f3, v4], rfl, rfl, ⟨[.string x.f1], [.int .i64 x.f2, .int .i64 x.f3, v4], rfl, rfl, ⟨[.int .i64 x.f2], [.int .i64 x.f3, v4], rfl, rfl, ⟨[.int .i64 x.f3], [v4], rfl, rfl, ⟨v4, rfl, r4⟩⟩⟩⟩⟩⟩
theorem k40_openF {W : World} {ok : Nat → Prop} {x : S40} {cs : List Value} (h : Kd.FK k40 W ok x cs) : ∃ A4 c4, cs = [.int .i64 x.f0, .string x.f1, .int .i64 x.f2, .int .i64 x.f3, .slice A4 x.f4.length c4] ∧ x.f4.length ≤ c4 ∧ Kd.F k40 W ok A4 x.f4.length x.f4 := by
  obtain ⟨A4, c4, rfl, l4, _⟩ := k40_open (Kd.FK_now h)
  exact ⟨A4, c4, rfl, l4, (fun W' hW => by obtain ⟨A4_, c4_, he, l4_, g4_⟩ := k40_open (h W' hW); injection (Option.some.inj (show some (Value.slice A4 x.f4.length c4) = some (Value.slice A4_ x.f4.length c4_) from congrArg (fun l => l[4]?) he)) with ha_ _ _; rw [ha_]; exact g4_)⟩
theorem k40_mkF (W : World) (ok : Nat → Prop) (x : S40) {A4 : Option Addr} {c4 : Nat} (l4 : x.f4.length ≤ c4) (g4 : Kd.F k40 W ok A4 x.f4.length x.f4) : Kd.FK k40 W ok x [.int .i64 x.f0, .string x.f1, .int .i64 x.f2, .int .i64 x.f3, .slice A4 x.f4.length c4] := fun W2 hW => k40_mk W2 x l4 (g4 W2 hW)
def rd_T40 (xs : List S40) (i : Int) : S40 := xs.getD i.toNat z40
theorem at_T40 {w : World} {A : Option Addr} {n : Nat} {xs : List S40} (h : Kd.C k40 w A n xs) (i : Int) (h0 : 0 ≤ i) (h1 : i < n) : ∃ ad A4 c4, A = some ad ∧ w.cell? (ad.add (i.toNat * 5)) = some (.int .i64 (rd_T40 xs i).f0) ∧ w.cell? ⟨(ad.add (i.toNat * 5)).block, (ad.add (i.toNat * 5)).off + 1, none⟩ = some (.string (rd_T40 xs i).f1) ∧ w.cell? ⟨(ad.add (i.toNat * 5)).block, (ad.add (i.toNat * 5)).off + 2, none⟩ = some (.int .i64 (rd_T40 xs i).f2) ∧ w.cell? ⟨(ad.add (i.toNat * 5)).block, (ad.add (i.toNat * 5)).off + 3, none⟩ = some (.int .i64 (rd_T40 xs i).f3) ∧ w.cell? ⟨(ad.add (i.toNat * 5)).block, (ad.add (i.toNat * 5)).off + 4, none⟩ = some (.slice A4 (rd_T40 xs i).f4.length c4) ∧ (rd_T40 xs i).f4.length ≤ c4 ∧ k40.C w A4 (rd_T40 xs i).f4.length (rd_T40 xs i).f4 := by
  obtain ⟨ad, c, e, _, hK, hc0⟩ := Kd.C_get h z40 i h0 h1
  have hc : ∀ j u, c[j]? = some u → w.cell? (ad.add (i.toNat * 5 + j)) = some u := hc0
  obtain ⟨A4, c4, rfl, l4, g4⟩ := k40_open hK
  exact ⟨ad, A4, c4, e, hc 0 _ rfl, by rw [← add_field _ _ 1 (by omega)]; exact hc 1 _ rfl, by rw [← add_field _ _ 2 (by omega)]; exact hc 2 _ rfl, by rw [← add_field _ _ 3 (by omega)]; exact hc 3 _ rfl, by rw [← add_field _ _ 4 (by omega)]; exact hc 4 _ rfl, l4, g4⟩

/-! #### struct type 52 -/
structure S52 where
  f0 : ByteArray
  f1 : S40
  f2 : Bool
def z52 : S52 := ⟨(⟨#[]⟩ : ByteArray), z40, false⟩
def k52 : Kd S52 := Kd.iso (Kd.pair Kd.string (Kd.pair k40 Kd.bool)) (fun x : S52 => (x.f0, x.f1, x.f2))
theorem k52_heap : Kd.Heap k52 := Kd.heap_iso _ (Kd.heap_pair Kd.heap_string (Kd.heap_pair k40_heap Kd.heap_bool))
theorem k52_open {w : World} {x : S52} {cs : List Value} (h : k52.K w x cs) : ∃ A5 c5, cs = [.string x.f0, .int .i64 x.f1.f0, .string x.f1.f1, .int .i64 x.f1.f2, .int .i64 x.f1.f3, .slice A5 x.f1.f4.length c5, .bool x.f2] ∧ x.f1.f4.length ≤ c5 ∧ k40.C w A5 x.f1.f4.length x.f1.f4 := by
  obtain ⟨_, _, rfl, rfl, ⟨_, _, rfl, s1, rfl⟩⟩ := h
  obtain ⟨A5, c5, rfl, l5, g5⟩ := k40_open s1
  exact ⟨A5, c5, rfl, l5, g5⟩
theorem k52_openM {w : World} {base : Nat} {ok : Nat → Prop} {x : S52} {cs : List Value} (h : k52.M w base ok x cs) : ∃ v5, cs = [.string x.f0, .int .i64 x.f1.f0, .string x.f1.f1, .int .i64 x.f1.f2, .int .i64 x.f1.f3, v5, .bool x.f2] ∧ k40.R 40 w base ok v5 x.f1.f4 := by
  obtain ⟨_, _, rfl, rfl, ⟨_, _, rfl, s1, rfl⟩⟩ := h
  obtain ⟨v5, rfl, g5⟩ := k40_openM s1
  exact ⟨v5, rfl, g5⟩
theorem k52_mk (w : World) (x : S52) {A5 : Option Addr} {c5 : Nat} (l5 : x.f1.f4.length ≤ c5) (g5 : k40.C w A5 x.f1.f4.length x.f1.f4) : k52.K w x [.string x.f0, .int .i64 x.f1.f0, .string x.f1.f1, .int .i64 x.f1.f2, .int .i64 x.f1.f3, .slice A5 x.f1.f4.length c5, .bool x.f2] := ⟨[.string x.f0], [.int .i64 x.f1.f0, .string x.f1.f1, .int .i64 x.f1.f2, .int .i64 x.f1.f3, .slice A5 x.f1.f4.length c5, .bool x.f2], rfl, rfl, ⟨[.int .i64 x.f1.f0, .string x.f1.f1, .int .i64 x.f1.f2, .int .i64 x.f1.f3, .slice A5 x.f1.f4.length c5], [.bool x.f2], rfl, (k40_mk w x.f1 l5 g5), rfl⟩⟩
theorem k52_mkM (w : World) (base : Nat) (ok : Nat → Prop) (x : S52) {v5 : Value} (g5 : k40.R 40 w base ok v5 x.f1.f4) : k52.M w base ok x [.string x.f0, .int .i64 x.f1.f0, .string x.f1.f1, .int .i64 x.f1.f2, .int .i64 x.f1.f3, v5, .bool x.f2] := ⟨[.string x.f0], [.int .i64 x.f1.f0, .string x.f1.f1, .int .i64 x.f1.f2, .int .i64 x.f1.f3, v5, .bool x.f2], rfl, rfl, ⟨[.int .i64 x.f1.f0, .string x.f1.f1, .int .i64 x.f1.f2, .int .i64 x.f1.f3, v5], [.bool x.f2], rfl, (k40_mkM w base ok x.f1 g5), rfl⟩⟩
theorem k52_openF {W : World} {ok : Nat → Prop} {x : S52} {cs : List Value} (h : Kd.FK k52 W ok x cs) : ∃ A5 c5, cs = [.string x.f0, .int .i64 x.f1.f0, .string x.f1.f1, .int .i64 x.f1.f2, .int .i64 x.f1.f3, .slice A5 x.f1.f4.length c5, .bool x.f2] ∧ x.f1.f4.length ≤ c5 ∧ Kd.F k40 W ok A5 x.f1.f4.length x.f1.f4 := by
  obtain ⟨A5, c5, rfl, l5, _⟩ := k52_open (Kd.FK_now h)
  exact ⟨A5, c5, rfl, l5, (fun W' hW => by obtain ⟨A5_, c5_, he, l5_, g5_⟩ := k52_open (h W' hW); injection (Option.some.inj (show some (Value.slice A5 x.f1.f4.length c5) = some (Value.slice A5_ x.f1.f4.length c5_) from congrArg (fun l => l[5]?) he)) with ha_ _ _; rw [ha_]; exact g5_)⟩
theorem k52_mkF (W : World) (ok : Nat → Prop) (x : S52) {A5 : Option Addr} {c5 : Nat} (l5 : x.f1.f4.length ≤ c5) (g5 : Kd.F k40 W ok A5 x.f1.f4.length x.f1.f4) : Kd.FK k52 W ok x [.string x.f0, .int .i64 x.f1.f0, .string x.f1.f1, .int .i64 x.f1.f2, .int .i64 x.f1.f3, .slice A5 x.f1.f4.length c5, .bool x.f2] := fun W2 hW => k52_mk W2 x l5 (g5 W2 hW)
def rd_T52 (xs : List S52) (i : Int) : S52 := xs.getD i.toNat z52
theorem at_T52 {w : World} {A : Option Addr} {n : Nat} {xs : List S52} (h : Kd.C k52 w A n xs) (i : Int) (h0 : 0 ≤ i) (h1 : i < n) : ∃ ad A5 c5, A = some ad ∧ w.cell? (ad.add (i.toNat * 7)) = some (.string (rd_T52 xs i).f0) ∧ w.cell? ⟨(ad.add (i.toNat * 7)).block, (ad.add (i.toNat * 7)).off + 1, none⟩ = some (.int .i64 (rd_T52 xs i).f1.f0) ∧ w.cell? ⟨(ad.add (i.toNat * 7)).block, (ad.add (i.toNat * 7)).off + 2, none⟩ = some (.string (rd_T52 xs i).f1.f1) ∧ w.cell? ⟨(ad.add (i.toNat * 7)).block, (ad.add (i.toNat * 7)).off + 3, none⟩ = some (.int .i64 (rd_T52 xs i).f1.f2) ∧ w.cell? ⟨(ad.add (i.toNat * 7)).block, (ad.add (i.toNat * 7)).off + 4, none⟩ = some (.int .i64 (rd_T52 xs i).f1.f3) ∧ w.cell? ⟨(ad.add (i.toNat * 7)).block, (ad.add (i.toNat * 7)).off + 5, none⟩ = some (.slice A5 (rd_T52 xs i).f1.f4.length c5) ∧ w.cell? ⟨(ad.add (i.toNat * 7)).block, (ad.add (i.toNat * 7)).off + 6, none⟩ = some (.bool (rd_T52 xs i).f2) ∧ (rd_T52 xs i).f1.f4.length ≤ c5 ∧ k40.C w A5 (rd_T52 xs i).f1.f4.length (rd_T52 xs i).f1.f4 := by
  obtain ⟨ad, c, e, _, hK, hc0⟩ := Kd.C_get h z52 i h0 h1
  have hc : ∀ j u, c[j]? = some u → w.cell? (ad.add (i.toNat * 7 + j)) = some u := hc0
  obtain ⟨A5, c5, rfl, l5, g5⟩ := k52_open hK
  exact ⟨ad, A5, c5, e, hc 0 _ rfl, by rw [← add_field _ _ 1 (by omega)]; exact hc 1 _ rfl, by rw [← add_field _ _ 2 (by omega)]; exact hc 2 _ rfl, by rw [← add_field _ _ 3 (by omega)]; exact hc 3 _ rfl, by rw [← add_field _ _ 4 (by omega)]; exact hc 4 _ rfl, by rw [← add_field _ _ 5 (by omega)]; exact hc 5 _ rfl, by rw [← add_field _ _ 6 (by omega)]; exact hc 6 _ rfl, l5, g5⟩

def rd_L7 (xs : List (List S52)) (i : Int) : (List S52) := xs.getD i.toNat ([] : List S52)
theorem at_L7 {w : World} {A : Option Addr} {n : Nat} {xs : List (List S52)} (h : Kd.C (Kd.slice 52 k52) w A n xs) (i : Int) (h0 : 0 ≤ i) (h1 : i < n) : ∃ ad A0 c0, A = some ad ∧ w.cell? (ad.add i.toNat) = some (.slice A0 (rd_L7 xs i).length c0) ∧ (rd_L7 xs i).length ≤ c0 ∧ k52.C w A0 (rd_L7 xs i).length (rd_L7 xs i) := by
  obtain ⟨ad, c, e, _, hK, hc0⟩ := Kd.C_get h ([] : List S52) i h0 h1
  have hc : ∀ j u, c[j]? = some u → w.cell? (ad.add (i.toNat * 1 + j)) = some u := hc0
  obtain ⟨A0, c0, rfl, l0, g0⟩ := hK
  exact ⟨ad, A0, c0, e, by have hq := hc 0 _ rfl; rwa [Nat.mul_one, Nat.add_zero] at hq, l0, g0⟩

end Go.Proofs.Ytgdpabedlghiaaa.PZ
-- printed for this claim by a program (pall.sh)
namespace Go.Proofs.Ytgdpabedlghiaaa.PZ
open Go.RowKit Go.Proofs.YtgdpabedlghiaaaW.PrintWords Go.Proofs.YtgdpabedlghiaaaW.PrintLast Go.Proofs.YtgdpabedlghiaaaW.PrintMore
attribute [local go_sem] max2_int min2_int max_two min_two max_three min_three max_four min_four   -- for this text's walks alone
set_option linter.unusedVariables false
set_option linter.unusedSimpArgs false

/-! ### scope_kids: function 112 -/
def scope_kids.f (a0 : Int) : Option (Int × Int) := if a0 = 8 then (some (1, 1)) else (if a0 = 6 then (some (2, 24)) else (if a0 = 7 then (some (2, 24)) else (some (0, 0))))
set_option maxHeartbeats 8000000 in
set_option maxRecDepth 100000 in
theorem scope_kids.calls (a0 : Int) (r1 : Int) (r2 : Int) (w : World) (h : scope_kids.f a0 = some (r1, r2)) :
    Calls Try.prog 112 #[.int .i64 a0] w fun e w' => e = .returned (.tuple #[.int .i64 r1, .int .i64 r2]) ∧ Drawn0 w w' := by
  have H : (if a0 = 8 then (some (1, 1)) else (if a0 = 6 then (some (2, 24)) else (if a0 = 7 then (some (2, 24)) else (some (0, 0))))) = some (r1, r2) := h
  clear h
  by_cases c2 : a0 = 8
  · rw [if_pos c2] at H
    have c2b0 : (a0 == 8) = true := beq_iff_eq.mpr c2
    have c2b1 : (a0 != 8) = false := bne_eq_false_iff_eq.mpr c2
    clear c2
    simp only [Option.some.injEq, Prod.mk.injEq] at H
    obtain ⟨rfl, rfl⟩ := H
    go_enter Try.func112, Try.ntmps112
    go_wp2
    go_ret2
    exact ⟨by first | rfl | (simp; done) | (simp [*]; done), by repeat (first | exact Drawn0.refl _ | apply Drawn0.step)⟩
  · rw [if_neg c2] at H
    have c2b0 : (a0 == 8) = false := beq_eq_false_iff_ne.mpr c2
    have c2b1 : (a0 != 8) = true := bne_iff_ne.mpr c2
    by_cases c3 : a0 = 6
    · rw [if_pos c3] at H
      have c3b0 : (a0 == 6) = true := beq_iff_eq.mpr c3
      have c3b1 : (a0 != 6) = false := bne_eq_false_iff_eq.mpr c3
      clear c3
      simp only [Option.some.injEq, Prod.mk.injEq] at H
      obtain ⟨rfl, rfl⟩ := H
      go_enter Try.func112, Try.ntmps112
      go_wp2
      go_ret2
      exact ⟨by first | rfl | (simp; done) | (simp [*]; done), by repeat (first | exact Drawn0.refl _ | apply Drawn0.step)⟩
    · rw [if_neg c3] at H
      have c3b0 : (a0 == 6) = false := beq_eq_false_iff_ne.mpr c3
      have c3b1 : (a0 != 6) = true := bne_iff_ne.mpr c3
      by_cases c4 : a0 = 7
      · rw [if_pos c4] at H
        have c4b0 : (a0 == 7) = true := beq_iff_eq.mpr c4
        have c4b1 : (a0 != 7) = false := bne_eq_false_iff_eq.mpr c4
        clear c4
        simp only [Option.some.injEq, Prod.mk.injEq] at H
        obtain ⟨rfl, rfl⟩ := H
        go_enter Try.func112, Try.ntmps112
        go_wp2
        go_ret2
        exact ⟨by first | rfl | (simp; done) | (simp [*]; done), by repeat (first | exact Drawn0.refl _ | apply Drawn0.step)⟩
      · rw [if_neg c4] at H
        have c4b0 : (a0 == 7) = false := beq_eq_false_iff_ne.mpr c4
        have c4b1 : (a0 != 7) = true := bne_iff_ne.mpr c4
        simp only [Option.some.injEq, Prod.mk.injEq] at H
        obtain ⟨rfl, rfl⟩ := H
        go_enter Try.func112, Try.ntmps112
        go_wp2
        go_ret2
        exact ⟨by first | rfl | (simp; done) | (simp [*]; done), by repeat (first | exact Drawn0.refl _ | apply Drawn0.step)⟩

end Go.Proofs.Ytgdpabedlghiaaa.PZ
/- What every text of this claim stands on: the imports, and a few laws on kinds. -/
namespace Go.Proofs.Ytgdpabedlghiaaa.Base
open Go.RowKit Go.Proofs.YtgdpabedlghiaaaW.PrintWords Go.Proofs.YtgdpabedlghiaaaW.PrintLast Go.Proofs.YtgdpabedlghiaaaW.PrintMore

/-- Bytes that are read stay so where another block alone is written. -/
theorem reads_keep {w w1 : World} {g : Nat} {k : IntKind} {A : Option Addr} {xs : List Int} (h : Kd.C (Kd.int k) w A xs.length xs) (hk : KeepBut w w1 g none) (hne : ∀ a, A = some a → 0 < xs.length → a.block ≠ g) : Kd.C (Kd.int k) w1 A xs.length xs := by
  have h' := Kd.reads_of_C (d := (0 : Int)) h
  refine Kd.C_of_reads (d := (0 : Int)) ⟨h'.1, h'.2.1, fun h0 => ?_⟩
  obtain ⟨ad, e, hc⟩ := h'.2.2 h0
  refine ⟨ad, e, fun j hj => keep_cell hk (hc j hj) ?_⟩
  rw [show (ad.add j).block = ad.block from by unfold Addr.add; split <;> rfl]
  exact hne ad e h0
theorem keep_set (w : World) (g j : Nat) (v : Value) : KeepBut w (w.setCell ⟨g, j, none⟩ v) g none := (KeepBut.refl w g none).set_ j v
/-- Numbers do not lie in a block whose cells are none. -/
theorem reads_ne {w : World} {g T : Nat} {cs : Array Value} {k : IntKind} {A : Option Addr} {xs : List Int} (hb : w.heap[g]? = some (.cells cs T (0, 0))) (hcs : ∀ i : Nat, ∀ v, cs[i]? = some v → ∀ n, v ≠ .int k n) (h : Kd.C (Kd.int k) w A xs.length xs) : ∀ a, A = some a → 0 < xs.length → a.block ≠ g := by
  intro a ha h0 hg
  have h' := Kd.reads_of_C (d := (0 : Int)) h
  obtain ⟨ad, e, hc⟩ := h'.2.2 h0
  rw [ha] at e
  injection e with e
  subst e
  have h1 := hc 0 h0
  have e0 : (a.add 0).block = g := by rw [show (a.add 0).block = a.block from by unfold Addr.add; split <;> rfl]; exact hg
  unfold World.cell? at h1
  rw [e0, hb] at h1
  dsimp only at h1
  split at h1
  · cases h1
  · exact hcs _ _ h1 _ rfl
/-- Bytes that are read. -/
abbrev Rb (w : World) (A : Option Addr) (xs : List Int) : Prop := Kd.C (Kd.int .u8) w A xs.length xs
/-- Bytes of the call's own. -/
abbrev Ob (w : World) (base : Nat) (v : Value) (xs : List Int) : Prop := Kd.R (Kd.int .u8) 5 w base (fun _ => True) v xs
theorem info_u8 : (Try.prog.info? 5).map (fun i => (i.zero, i.size, i.bytes)) = some (some (.int .u8 0), 1, 1) := by kernel_rfl
theorem rd_nat' (xs : List Int) (i : Nat) (h : i < xs.length) : rd xs (i : Int) = xs[i] := by simp [rd, List.getD_eq_getElem?_getD, List.getElem?_eq_getElem h]
/-- A row of bytes of the call's own, read. -/
theorem Ob.reads {w : World} {base : Nat} {v : Value} {xs : List Int} (h : Ob w base v xs) : ∃ A c, v = .slice A xs.length c ∧ xs.length ≤ c ∧ Rb w A xs := Kd.R_reads h
theorem Rb.at0 {w : World} {A : Option Addr} {x : Int} {xs : List Int} (h : Rb w A (x :: xs)) : ∃ ad, A = some ad ∧ w.cell? ad = some (.int .u8 x) := by
  obtain ⟨ad, e, hc⟩ := Kd.at_int h 0 (by omega) (by simp)
  exact ⟨ad, e, by simpa [rd, Addr.add] using hc⟩
/-- Bytes that are written out. -/
theorem lit_bytes {P : Program} {ops : Array Oper} {rest : List Oper} {o : Oper} {a : Act} {Q : Exit → Act → World → Prop} {W : World} {N : Tmp} (hgd : o.guard = none) (hd : o.dst = some N) (xs : List Int) (inner : List Value) (hi : inner = nums .u8 xs)
    (hrun : (execOp a.eval o).run P W = .ok (.value (.slice (some ⟨W.heap.size, 0, none⟩) xs.length xs.length)) (W.alloc (.cells inner.toArray 5))) (hm : xs.length ≤ 9223372036854775807)
    (h : ∀ v1 w1, Ob w1 W.heap.size v1 xs → Below W.heap.size W w1 → wpList P ops Q rest (a.put o.dst v1) w1) : wpList P ops Q (o :: rest) a W := by
  subst hi
  exact Kd.R_lit (Kd.int .u8) W.heap.size 5 hgd hd (okp := fun _ => True) hrun (Kd.reps_scalar (enc := Value.int .u8) xs) (fun _ hk => hk) trivial (Below.refl _ _) (Nat.le_refl _) hm (fun v1 w1 h1 h2 _ _ => h v1 w1 h1 h2)
/-- The bytes of a text that is written out, read. -/
theorem const_reads (w : World) (xs : List Int) (C : Array Value) (fr : Nat × Nat) (hC : C = (nums .u8 xs).toArray) (hm : xs.length ≤ 9223372036854775807) : Rb (w.alloc (.cells C 5 fr)) (some ⟨w.heap.size, 0, none⟩) xs := by
  subst hC
  refine Kd.C_of_reads (d := (0 : Int)) ⟨rfl, hm, fun _ => ⟨_, rfl, fun j hj => ?_⟩⟩
  have e : (⟨w.heap.size, 0, none⟩ : Addr).add j = ⟨w.heap.size, j, none⟩ := add_plain _ _
  rw [e]
  have hb : (w.alloc (.cells (nums .u8 xs).toArray 5 fr)).heap[w.heap.size]? = some (.cells (nums .u8 xs).toArray 5 fr) := heap_alloc_new _ _
  unfold World.cell?
  dsimp only
  rw [hb]
  simp [nums, List.getElem?_eq_getElem hj, List.getD_eq_getElem?_getD]
/-- Rows of bytes that are read. -/
abbrev Rr (w : World) (A : Option Addr) (xs : List (List Int)) : Prop := Kd.C (Kd.slice 5 (Kd.int .u8)) w A xs.length xs
/-- A slice of rows that is written out. -/
theorem lit_rows {P : Program} {ops : Array Oper} {rest : List Oper} {o : Oper} {a : Act} {Q : Exit → Act → World → Prop} {W : World} {N : Tmp} {e : TypeId} (hgd : o.guard = none) (_hd : o.dst = some N) (xs : List (List Int)) (inner : List Value)
    (hi : inner.length = xs.length ∧ ∀ (j : Nat) (l : List Int), xs[j]? = some l → ∃ A c, inner[j]? = some (Value.slice A l.length c) ∧ l.length ≤ c ∧ Rb W A l)
    (hrun : (execOp a.eval o).run P W = .ok (.value (.slice (some ⟨W.heap.size, 0, none⟩) xs.length xs.length)) (W.alloc (.cells inner.toArray e))) (hm : xs.length ≤ 9223372036854775807)
    (h : ∀ A1 w1, Rr w1 A1 xs → Below W.heap.size W w1 → wpList P ops Q rest (a.put o.dst (.slice A1 xs.length xs.length)) w1) : wpList P ops Q (o :: rest) a W := by
  refine Kd.event_run hgd hrun (h _ _ ⟨rfl, hm, fun _ => ⟨_, rfl, fun j l hj => ?_⟩⟩ ((Below.refl _ W).alloc (Nat.le_refl _) _))
  obtain ⟨A, c, h1, h2, h3⟩ := hi.2 j l hj
  refine ⟨[.slice A l.length c], rfl, ⟨A, c, rfl, h2, Kd.C_alloc h3 _⟩, fun i u hu => ?_⟩
  have hi0 : i = 0 := by
    have := (List.getElem?_eq_some_iff.1 hu).1
    simp at this
    exact this
  subst hi0
  rw [show j * (Kd.slice 5 (Kd.int .u8)).sz + 0 = j from by show j * 1 + 0 = j; omega, add_plain]
  rw [blk_cell (blk_new W (.cells inner.toArray e))]
  rw [show inner.toArray[j]? = inner[j]? from by simp, h1]
  exact hu
/-- Two rows, three rows: what 'lit_rows' asks of them. -/
theorem rows2 {W : World} {a b : List Int} {A B : Option Addr} {ca cb : Nat} (ha : Rb W A a) (hca : a.length ≤ ca) (hb : Rb W B b) (hcb : b.length ≤ cb) :
    [Value.slice A a.length ca, .slice B b.length cb].length = [a, b].length ∧ ∀ (j : Nat) (l : List Int), [a, b][j]? = some l → ∃ A' c, [Value.slice A a.length ca, .slice B b.length cb][j]? = some (Value.slice A' l.length c) ∧ l.length ≤ c ∧ Rb W A' l := by
  refine ⟨rfl, fun j l hj => ?_⟩
  match j, hj with
  | 0, hj => cases hj; exact ⟨_, _, rfl, hca, ha⟩
  | 1, hj => cases hj; exact ⟨_, _, rfl, hcb, hb⟩
theorem rows3 {W : World} {a b c : List Int} {A B C : Option Addr} {ca cb cc : Nat} (ha : Rb W A a) (hca : a.length ≤ ca) (hb : Rb W B b) (hcb : b.length ≤ cb) (hc : Rb W C c) (hcc : c.length ≤ cc) :
    [Value.slice A a.length ca, .slice B b.length cb, .slice C c.length cc].length = [a, b, c].length ∧ ∀ (j : Nat) (l : List Int), [a, b, c][j]? = some l → ∃ A' c', [Value.slice A a.length ca, .slice B b.length cb, .slice C c.length cc][j]? = some (Value.slice A' l.length c') ∧ l.length ≤ c' ∧ Rb W A' l := by
  refine ⟨rfl, fun j l hj => ?_⟩
  match j, hj with
  | 0, hj => cases hj; exact ⟨_, _, rfl, hca, ha⟩
  | 1, hj => cases hj; exact ⟨_, _, rfl, hcb, hb⟩
  | 2, hj => cases hj; exact ⟨_, _, rfl, hcc, hc⟩
/-- A take of bytes that are read. -/
theorem Rb.take {w : World} {A : Option Addr} {xs : List Int} (h : Rb w A xs) (n : Nat) (hn : n ≤ xs.length) : Rb w A (xs.take n) := by
  have h5 := Kd.C_of_reads (d := (0 : Int)) (h1 := fun _ => rfl) (ReadsInt.take_ (Kd.reads_of_C (d := (0 : Int)) h) n hn)
  show Kd.C _ w A (xs.take n).length (xs.take n)
  rw [show (xs.take n).length = n from by rw [List.length_take]; omega]
  exact h5
theorem Rb.len {w : World} {A : Option Addr} {xs : List Int} (h : Rb w A xs) : xs.length ≤ 9223372036854775807 := (Kd.reads_of_C (d := (0 : Int)) h).2.1
end Go.Proofs.Ytgdpabedlghiaaa.Base
/- Small plain laws on rounds, numbers and lists. -/
namespace Go.Proofs.Ytgdpabedlghiaaa.Aid
open Go.RowKit Go.Proofs.YtgdpabedlghiaaaW.PrintWords Go.Proofs.YtgdpabedlghiaaaW.PrintLast

theorem pos {α : Type} {c : Prop} [Decidable c] {a b : Nat → Option α} {r : α} (h : c) (e : Ev a r) : Ev (fun k => if c then a k else b k) r := by
  simpa only [if_pos h] using e
theorem neg {α : Type} {c : Prop} [Decidable c] {a b : Nat → Option α} {r : α} (h : ¬ c) (e : Ev b r) : Ev (fun k => if c then a k else b k) r := by
  simpa only [if_neg h] using e
theorem now {α : Type} {r s : α} (h : r = s) : Ev (fun _ => some r) s := h ▸ Ev.now r
theorem evBind {α β : Type} {g : Nat → Option α} {f : Nat → α → Option β} {a : α} {r : β} (h : Ev g a) (k : Ev (fun n => f n a) r) : Ev (fun n => (g n).bind (f n)) r := h.bind k
theorem bindSome {α β : Type} {o : Option α} {f : Nat → α → Option β} {a : α} {r : β} (h : o = some a) (k : Ev (fun n => f n a) r) : Ev (fun n => o.bind (f n)) r := by
  subst h; exact k
theorem w64 {x : Int} (h0 : -9223372036854775808 ≤ x) (h1 : x ≤ 9223372036854775807) : wrap64 x = x := by unfold wrap64; omega
theorem u64 {x : Int} (h0 : 0 ≤ x) (h1 : x ≤ 18446744073709551615) : IntKind.u64.wrap x = x := IntWalk.u64_in x ⟨h0, h1⟩
theorem rd_nat (xs : List Int) (i : Nat) (h : i < xs.length) : rd xs (i : Int) = xs[i] := by
  simp [rd, List.getD_eq_getElem?_getD, List.getElem?_eq_getElem h]
theorem drop_cons {α : Type} (xs : List α) (i : Nat) (h : i < xs.length) : xs.drop i = xs[i] :: xs.drop (i + 1) := List.drop_eq_getElem_cons h
theorem inc {i n : Nat} (h : i < n) (hn : n ≤ 4611686018427387904) : wrap64 ((i : Int) + 1) = ((i + 1 : Nat) : Int) := by rw [w64 (by omega) (by omega)]; rfl
theorem take_snoc {α : Type} (xs : List α) (i : Nat) (h : i < xs.length) : xs.take (i + 1) = xs.take i ++ [xs[i]] := List.take_succ_eq_append_getElem h
end Go.Proofs.Ytgdpabedlghiaaa.Aid
/- slices.IndexFunc, ContainsFunc over scopes: walked once for each function value (printed by gen_scope.py). -/
namespace Go.Proofs.Ytgdpabedlghiaaa.Scope
set_option linter.unusedVariables false
set_option linter.unusedSimpArgs false
open Go.RowKit Go.Proofs.YtgdpabedlghiaaaW.PrintWords Go.Proofs.YtgdpabedlghiaaaW.PrintLast Go.Proofs.YtgdpabedlghiaaaW.PrintMore Go.Proofs.Ytgdpabedlghiaaa.PZ
/-- The first of which it is said, its place; and what the asking leaves. -/
def runIdx {α σ : Type} (step : α → σ → Bool × σ) : List α → Nat → σ → Int × σ
  | [], _, s => (-1, s)
  | x :: xs, i, s => if (step x s).1 = true then ((i : Int), (step x s).2) else runIdx step xs (i + 1) (step x s).2
/-- Is it said of any? -/
def runAny {α σ : Type} (step : α → σ → Bool × σ) : List α → σ → Bool × σ
  | [], s => (false, s)
  | x :: xs, s => if (step x s).1 = true then (true, (step x s).2) else runAny step xs (step x s).2
theorem runIdx_any {α σ : Type} (step : α → σ → Bool × σ) : ∀ (xs : List α) (i : Nat) (s : σ), decide ((runIdx step xs i s).1 ≥ 0) = (runAny step xs s).1 ∧ (runIdx step xs i s).2 = (runAny step xs s).2
  | [], _, _ => ⟨rfl, rfl⟩
  | x :: xs, i, s => by
    unfold runIdx runAny
    by_cases h : (step x s).1 = true
    · rw [if_pos h, if_pos h]
      exact ⟨decide_eq_true (by omega), rfl⟩
    · rw [if_neg h, if_neg h]
      exact runIdx_any step xs (i + 1) _
theorem runAny_pure {α : Type} (p : α → Bool) : ∀ (xs : List α), runAny (fun x (_ : Unit) => (p x, ())) xs () = (xs.any p, ())
  | [] => rfl
  | x :: xs => by
    unfold runAny
    cases h : p x
    · simp [h, runAny_pure p xs]
    · simp [h]

set_option maxHeartbeats 2000000 in
set_option maxRecDepth 100000 in
theorem idx_m1 {σ : Type} (g0 : Nat) (step : S40 → σ → Bool × σ) (Inv : σ → World → Prop) (A : Option Addr) (xs : List S40) (c : Nat) (v0 : World) (hrow : Kd.C k40 v0 A xs.length xs) (hbase : ∀ s W, Inv s W → Below v0.heap.size v0 W)
    (hp : ∀ x ∈ xs, ∀ s W A4 c4, Inv s W → Kd.C k40 v0 A4 x.f4.length x.f4 → x.f4.length ≤ c4 → Calls Try.prog 71 #[.agg #[.int .i64 x.f0, .string x.f1, .int .i64 x.f2, .int .i64 x.f3, .slice A4 x.f4.length c4], .pointer (some ⟨g0, 0, none⟩)] W fun e w' => e = .returned (.bool (step x s).1) ∧ Inv (step x s).2 w')
    (s0 : σ) (w : World) (h0 : Inv s0 w) :
    Calls Try.prog 115 #[.slice A xs.length c, .func (.func 71) #[] #[.pointer (some ⟨g0, 0, none⟩)]] w fun e w' => e = .returned (.int .i64 (runIdx step xs 0 s0).1) ∧ Inv (runIdx step xs 0 s0).2 w' := by
  have HR := Aside0.mk hrow
  have HP := Aside0.mk hp
  have H0 := Aside0.mk h0
  have HM := Aside0.mk hrow.2.1
  have HBS := Aside0.mk hbase
  have hu38 := Try.underlying38
  have hu40 := Try.underlying40
  clear hrow hp h0 hbase
  go_enter Try.func115, Try.ntmps115
  go_wp2
  go_loopg [8] xs.length (fun gf s8 wx => ∃ (i : Nat) (s : σ), s8 = .int .i64 (i : Int) ∧ i + gf = xs.length ∧ Inv s wx ∧ runIdx step (xs.drop i) i s = runIdx step xs 0 s0)
  case atStart => exact ⟨0, s0, rfl, by omega, H0.out, rfl⟩
  case round =>
    obtain ⟨i, s, rfl, hi, hinv, hrun⟩ := hrel
    have HI := Aside0.mk hinv
    have HU := Aside0.mk hrun
    have HG := Aside0.mk hi
    clear hinv hrun hi
    by_cases hlt : i < xs.length
    · have hl1 : decide ((i : Int) < (xs.length : Int)) = true := decide_eq_true (by omega)
      have hw1 : wrap64 ((i : Int) + 1) = ((i + 1 : Nat) : Int) := by rw [Aid.w64 (by omega) (by have := HM.out; omega)]; omega
      have HX := Aside0.mk (List.getElem_mem hlt)
      obtain ⟨ad, A4, c4, rfl, hx0, hx1, hx2, hx3, hx4, hl4, hi4⟩ := at_T40 HR.out (i : Int) (by omega) (by omega)
      have hrd : rd_T40 xs (i : Int) = xs[i] := by simp [rd_T40, List.getD_eq_getElem?_getD, List.getElem?_eq_getElem hlt]
      have hbm := HBS.out s wr HI.out
      replace hx0 := (hbm.cell (World.block_lt_of_cell? _ _ hx0)).trans hx0
      replace hx1 := (hbm.cell (World.block_lt_of_cell? _ _ hx1)).trans hx1
      replace hx2 := (hbm.cell (World.block_lt_of_cell? _ _ hx2)).trans hx2
      replace hx3 := (hbm.cell (World.block_lt_of_cell? _ _ hx3)).trans hx3
      replace hx4 := (hbm.cell (World.block_lt_of_cell? _ _ hx4)).trans hx4
      clear hbm
      rw [hrd] at hx0 hx1 hx2 hx3 hx4 hl4 hi4
      simp only [Int.toNat_natCast] at hx0 hx1 hx2 hx3 hx4
      have HC := Aside0.mk (HP.out xs[i] HX.out s wr A4 c4 HI.out hi4 hl4)
      have HD := Aside0.mk (List.drop_eq_getElem_cons hlt)
      obtain ⟨x, hx⟩ : ∃ x, xs[i] = x := ⟨_, rfl⟩
      rw [hx] at hx0 hx1 hx2 hx3 hx4 HC HD
      rw [HD.out, runIdx] at HU
      clear hx hrd hl4 hi4 HX HD
      have p1 : (0 : Int) ≤ (i : Int) := by omega
      have p2 : (i : Int) < (xs.length : Int) := by omega
      obtain ⟨b, hb⟩ : ∃ b, (step x s).1 = b := ⟨_, rfl⟩
      rw [hb] at HC HU
      clear hb
      cases b with
      | true =>
        rw [if_pos rfl] at HU
        go_wp2_with (go_at_call 71; refine HC.out.mono ?_; rintro e w' ⟨rfl, hv⟩; have HV := Aside0.mk hv; clear hv)
        go_ret
        rw [← HU.out]
        exact ⟨rfl, HV.out⟩
      | false =>
        rw [if_neg (by decide)] at HU
        go_wp2_with (go_at_call 71; refine HC.out.mono ?_; rintro e w' ⟨rfl, hv⟩; have HV := Aside0.mk hv; clear hv)
        go_roundg (xs.length - (i + 1))
        case measure => have := HG.out; omega
        case rel => exact ⟨i + 1, (step x s).2, by first | rfl | rw [hw1], by omega, HV.out, HU.out⟩
    · have hl1 : decide ((i : Int) < (xs.length : Int)) = false := decide_eq_false (by omega)
      have HE := Aside0.mk (List.drop_eq_nil_of_le (show xs.length ≤ i by omega))
      rw [HE.out, runIdx] at HU
      go_wp2
      go_ret
      rw [← HU.out]
      exact ⟨rfl, HI.out⟩
set_option maxHeartbeats 1000000 in
theorem any_m1 {σ : Type} (g0 : Nat) (step : S40 → σ → Bool × σ) (Inv : σ → World → Prop) (A : Option Addr) (xs : List S40) (c : Nat) (v0 : World) (hrow : Kd.C k40 v0 A xs.length xs) (hbase : ∀ s W, Inv s W → Below v0.heap.size v0 W)
    (hp : ∀ x ∈ xs, ∀ s W A4 c4, Inv s W → Kd.C k40 v0 A4 x.f4.length x.f4 → x.f4.length ≤ c4 → Calls Try.prog 71 #[.agg #[.int .i64 x.f0, .string x.f1, .int .i64 x.f2, .int .i64 x.f3, .slice A4 x.f4.length c4], .pointer (some ⟨g0, 0, none⟩)] W fun e w' => e = .returned (.bool (step x s).1) ∧ Inv (step x s).2 w')
    (s0 : σ) (w : World) (h0 : Inv s0 w) :
    Calls Try.prog 72 #[.slice A xs.length c, .func (.func 71) #[] #[.pointer (some ⟨g0, 0, none⟩)]] w fun e w' => e = .returned (.bool (runAny step xs s0).1) ∧ Inv (runAny step xs s0).2 w' := by
  have HC := Aside0.mk (idx_m1 g0 step Inv A xs c v0 hrow hbase hp s0 w h0)
  have HB := Aside0.mk (runIdx_any step xs 0 s0)
  obtain ⟨r, hr⟩ : ∃ r, runIdx step xs 0 s0 = r := ⟨_, rfl⟩
  rw [hr] at HC HB
  rw [← HB.out.1, ← HB.out.2]
  clear hr hrow hp h0 HB hbase
  obtain ⟨j, s⟩ := r
  obtain ⟨b, hb⟩ : ∃ b, decide (j ≥ 0) = b := ⟨_, rfl⟩
  have hb2 : decide ((0 : Int) ≤ j) = b := hb
  rw [hb]
  go_enter Try.func72, Try.ntmps72
  go_wp2_with (go_at_call 115; refine HC.out.mono ?_; rintro e w' ⟨rfl, hv⟩; have HV := Aside0.mk hv; clear hv)
  go_ret
  exact ⟨rfl, HV.out⟩

set_option maxHeartbeats 2000000 in
set_option maxRecDepth 100000 in
theorem idx_m2 {σ : Type} (g0 : Nat) (step : S40 → σ → Bool × σ) (Inv : σ → World → Prop) (A : Option Addr) (xs : List S40) (c : Nat) (v0 : World) (hrow : Kd.C k40 v0 A xs.length xs) (hbase : ∀ s W, Inv s W → Below v0.heap.size v0 W)
    (hp : ∀ x ∈ xs, ∀ s W A4 c4, Inv s W → Kd.C k40 v0 A4 x.f4.length x.f4 → x.f4.length ≤ c4 → Calls Try.prog 73 #[.agg #[.int .i64 x.f0, .string x.f1, .int .i64 x.f2, .int .i64 x.f3, .slice A4 x.f4.length c4], .pointer (some ⟨g0, 0, none⟩)] W fun e w' => e = .returned (.bool (step x s).1) ∧ Inv (step x s).2 w')
    (s0 : σ) (w : World) (h0 : Inv s0 w) :
    Calls Try.prog 115 #[.slice A xs.length c, .func (.func 73) #[] #[.pointer (some ⟨g0, 0, none⟩)]] w fun e w' => e = .returned (.int .i64 (runIdx step xs 0 s0).1) ∧ Inv (runIdx step xs 0 s0).2 w' := by
  have HR := Aside0.mk hrow
  have HP := Aside0.mk hp
  have H0 := Aside0.mk h0
  have HM := Aside0.mk hrow.2.1
  have HBS := Aside0.mk hbase
  have hu38 := Try.underlying38
  have hu40 := Try.underlying40
  clear hrow hp h0 hbase
  go_enter Try.func115, Try.ntmps115
  go_wp2
  go_loopg [8] xs.length (fun gf s8 wx => ∃ (i : Nat) (s : σ), s8 = .int .i64 (i : Int) ∧ i + gf = xs.length ∧ Inv s wx ∧ runIdx step (xs.drop i) i s = runIdx step xs 0 s0)
  case atStart => exact ⟨0, s0, rfl, by omega, H0.out, rfl⟩
  case round =>
    obtain ⟨i, s, rfl, hi, hinv, hrun⟩ := hrel
    have HI := Aside0.mk hinv
    have HU := Aside0.mk hrun
    have HG := Aside0.mk hi
    clear hinv hrun hi
    by_cases hlt : i < xs.length
    · have hl1 : decide ((i : Int) < (xs.length : Int)) = true := decide_eq_true (by omega)
      have hw1 : wrap64 ((i : Int) + 1) = ((i + 1 : Nat) : Int) := by rw [Aid.w64 (by omega) (by have := HM.out; omega)]; omega
      have HX := Aside0.mk (List.getElem_mem hlt)
      obtain ⟨ad, A4, c4, rfl, hx0, hx1, hx2, hx3, hx4, hl4, hi4⟩ := at_T40 HR.out (i : Int) (by omega) (by omega)
      have hrd : rd_T40 xs (i : Int) = xs[i] := by simp [rd_T40, List.getD_eq_getElem?_getD, List.getElem?_eq_getElem hlt]
      have hbm := HBS.out s wr HI.out
      replace hx0 := (hbm.cell (World.block_lt_of_cell? _ _ hx0)).trans hx0
      replace hx1 := (hbm.cell (World.block_lt_of_cell? _ _ hx1)).trans hx1
      replace hx2 := (hbm.cell (World.block_lt_of_cell? _ _ hx2)).trans hx2
      replace hx3 := (hbm.cell (World.block_lt_of_cell? _ _ hx3)).trans hx3
      replace hx4 := (hbm.cell (World.block_lt_of_cell? _ _ hx4)).trans hx4
      clear hbm
      rw [hrd] at hx0 hx1 hx2 hx3 hx4 hl4 hi4
      simp only [Int.toNat_natCast] at hx0 hx1 hx2 hx3 hx4
      have HC := Aside0.mk (HP.out xs[i] HX.out s wr A4 c4 HI.out hi4 hl4)
      have HD := Aside0.mk (List.drop_eq_getElem_cons hlt)
      obtain ⟨x, hx⟩ : ∃ x, xs[i] = x := ⟨_, rfl⟩
      rw [hx] at hx0 hx1 hx2 hx3 hx4 HC HD
      rw [HD.out, runIdx] at HU
      clear hx hrd hl4 hi4 HX HD
      have p1 : (0 : Int) ≤ (i : Int) := by omega
      have p2 : (i : Int) < (xs.length : Int) := by omega
      obtain ⟨b, hb⟩ : ∃ b, (step x s).1 = b := ⟨_, rfl⟩
      rw [hb] at HC HU
      clear hb
      cases b with
      | true =>
        rw [if_pos rfl] at HU
        go_wp2_with (go_at_call 73; refine HC.out.mono ?_; rintro e w' ⟨rfl, hv⟩; have HV := Aside0.mk hv; clear hv)
        go_ret
        rw [← HU.out]
        exact ⟨rfl, HV.out⟩
      | false =>
        rw [if_neg (by decide)] at HU
        go_wp2_with (go_at_call 73; refine HC.out.mono ?_; rintro e w' ⟨rfl, hv⟩; have HV := Aside0.mk hv; clear hv)
        go_roundg (xs.length - (i + 1))
        case measure => have := HG.out; omega
        case rel => exact ⟨i + 1, (step x s).2, by first | rfl | rw [hw1], by omega, HV.out, HU.out⟩
    · have hl1 : decide ((i : Int) < (xs.length : Int)) = false := decide_eq_false (by omega)
      have HE := Aside0.mk (List.drop_eq_nil_of_le (show xs.length ≤ i by omega))
      rw [HE.out, runIdx] at HU
      go_wp2
      go_ret
      rw [← HU.out]
      exact ⟨rfl, HI.out⟩
set_option maxHeartbeats 1000000 in
theorem any_m2 {σ : Type} (g0 : Nat) (step : S40 → σ → Bool × σ) (Inv : σ → World → Prop) (A : Option Addr) (xs : List S40) (c : Nat) (v0 : World) (hrow : Kd.C k40 v0 A xs.length xs) (hbase : ∀ s W, Inv s W → Below v0.heap.size v0 W)
    (hp : ∀ x ∈ xs, ∀ s W A4 c4, Inv s W → Kd.C k40 v0 A4 x.f4.length x.f4 → x.f4.length ≤ c4 → Calls Try.prog 73 #[.agg #[.int .i64 x.f0, .string x.f1, .int .i64 x.f2, .int .i64 x.f3, .slice A4 x.f4.length c4], .pointer (some ⟨g0, 0, none⟩)] W fun e w' => e = .returned (.bool (step x s).1) ∧ Inv (step x s).2 w')
    (s0 : σ) (w : World) (h0 : Inv s0 w) :
    Calls Try.prog 72 #[.slice A xs.length c, .func (.func 73) #[] #[.pointer (some ⟨g0, 0, none⟩)]] w fun e w' => e = .returned (.bool (runAny step xs s0).1) ∧ Inv (runAny step xs s0).2 w' := by
  have HC := Aside0.mk (idx_m2 g0 step Inv A xs c v0 hrow hbase hp s0 w h0)
  have HB := Aside0.mk (runIdx_any step xs 0 s0)
  obtain ⟨r, hr⟩ : ∃ r, runIdx step xs 0 s0 = r := ⟨_, rfl⟩
  rw [hr] at HC HB
  rw [← HB.out.1, ← HB.out.2]
  clear hr hrow hp h0 HB hbase
  obtain ⟨j, s⟩ := r
  obtain ⟨b, hb⟩ : ∃ b, decide (j ≥ 0) = b := ⟨_, rfl⟩
  have hb2 : decide ((0 : Int) ≤ j) = b := hb
  rw [hb]
  go_enter Try.func72, Try.ntmps72
  go_wp2_with (go_at_call 115; refine HC.out.mono ?_; rintro e w' ⟨rfl, hv⟩; have HV := Aside0.mk hv; clear hv)
  go_ret
  exact ⟨rfl, HV.out⟩

set_option maxHeartbeats 2000000 in
set_option maxRecDepth 100000 in
theorem idx_may {σ : Type} (g0 g1 : Nat) (step : S40 → σ → Bool × σ) (Inv : σ → World → Prop) (A : Option Addr) (xs : List S40) (c : Nat) (v0 : World) (hrow : Kd.C k40 v0 A xs.length xs) (hbase : ∀ s W, Inv s W → Below v0.heap.size v0 W)
    (hp : ∀ x ∈ xs, ∀ s W A4 c4, Inv s W → Kd.C k40 v0 A4 x.f4.length x.f4 → x.f4.length ≤ c4 → Calls Try.prog 114 #[.agg #[.int .i64 x.f0, .string x.f1, .int .i64 x.f2, .int .i64 x.f3, .slice A4 x.f4.length c4], .pointer (some ⟨g0, 0, none⟩), .pointer (some ⟨g1, 0, none⟩)] W fun e w' => e = .returned (.bool (step x s).1) ∧ Inv (step x s).2 w')
    (s0 : σ) (w : World) (h0 : Inv s0 w) :
    Calls Try.prog 115 #[.slice A xs.length c, .func (.func 114) #[] #[.pointer (some ⟨g0, 0, none⟩), .pointer (some ⟨g1, 0, none⟩)]] w fun e w' => e = .returned (.int .i64 (runIdx step xs 0 s0).1) ∧ Inv (runIdx step xs 0 s0).2 w' := by
  have HR := Aside0.mk hrow
  have HP := Aside0.mk hp
  have H0 := Aside0.mk h0
  have HM := Aside0.mk hrow.2.1
  have HBS := Aside0.mk hbase
  have hu38 := Try.underlying38
  have hu40 := Try.underlying40
  clear hrow hp h0 hbase
  go_enter Try.func115, Try.ntmps115
  go_wp2
  go_loopg [8] xs.length (fun gf s8 wx => ∃ (i : Nat) (s : σ), s8 = .int .i64 (i : Int) ∧ i + gf = xs.length ∧ Inv s wx ∧ runIdx step (xs.drop i) i s = runIdx step xs 0 s0)
  case atStart => exact ⟨0, s0, rfl, by omega, H0.out, rfl⟩
  case round =>
    obtain ⟨i, s, rfl, hi, hinv, hrun⟩ := hrel
    have HI := Aside0.mk hinv
    have HU := Aside0.mk hrun
    have HG := Aside0.mk hi
    clear hinv hrun hi
    by_cases hlt : i < xs.length
    · have hl1 : decide ((i : Int) < (xs.length : Int)) = true := decide_eq_true (by omega)
      have hw1 : wrap64 ((i : Int) + 1) = ((i + 1 : Nat) : Int) := by rw [Aid.w64 (by omega) (by have := HM.out; omega)]; omega
      have HX := Aside0.mk (List.getElem_mem hlt)
      obtain ⟨ad, A4, c4, rfl, hx0, hx1, hx2, hx3, hx4, hl4, hi4⟩ := at_T40 HR.out (i : Int) (by omega) (by omega)
      have hrd : rd_T40 xs (i : Int) = xs[i] := by simp [rd_T40, List.getD_eq_getElem?_getD, List.getElem?_eq_getElem hlt]
      have hbm := HBS.out s wr HI.out
      replace hx0 := (hbm.cell (World.block_lt_of_cell? _ _ hx0)).trans hx0
      replace hx1 := (hbm.cell (World.block_lt_of_cell? _ _ hx1)).trans hx1
      replace hx2 := (hbm.cell (World.block_lt_of_cell? _ _ hx2)).trans hx2
      replace hx3 := (hbm.cell (World.block_lt_of_cell? _ _ hx3)).trans hx3
      replace hx4 := (hbm.cell (World.block_lt_of_cell? _ _ hx4)).trans hx4
      clear hbm
      rw [hrd] at hx0 hx1 hx2 hx3 hx4 hl4 hi4
      simp only [Int.toNat_natCast] at hx0 hx1 hx2 hx3 hx4
      have HC := Aside0.mk (HP.out xs[i] HX.out s wr A4 c4 HI.out hi4 hl4)
      have HD := Aside0.mk (List.drop_eq_getElem_cons hlt)
      obtain ⟨x, hx⟩ : ∃ x, xs[i] = x := ⟨_, rfl⟩
      rw [hx] at hx0 hx1 hx2 hx3 hx4 HC HD
      rw [HD.out, runIdx] at HU
      clear hx hrd hl4 hi4 HX HD
      have p1 : (0 : Int) ≤ (i : Int) := by omega
      have p2 : (i : Int) < (xs.length : Int) := by omega
      obtain ⟨b, hb⟩ : ∃ b, (step x s).1 = b := ⟨_, rfl⟩
      rw [hb] at HC HU
      clear hb
      cases b with
      | true =>
        rw [if_pos rfl] at HU
        go_wp2_with (go_at_call 114; refine HC.out.mono ?_; rintro e w' ⟨rfl, hv⟩; have HV := Aside0.mk hv; clear hv)
        go_ret
        rw [← HU.out]
        exact ⟨rfl, HV.out⟩
      | false =>
        rw [if_neg (by decide)] at HU
        go_wp2_with (go_at_call 114; refine HC.out.mono ?_; rintro e w' ⟨rfl, hv⟩; have HV := Aside0.mk hv; clear hv)
        go_roundg (xs.length - (i + 1))
        case measure => have := HG.out; omega
        case rel => exact ⟨i + 1, (step x s).2, by first | rfl | rw [hw1], by omega, HV.out, HU.out⟩
    · have hl1 : decide ((i : Int) < (xs.length : Int)) = false := decide_eq_false (by omega)
      have HE := Aside0.mk (List.drop_eq_nil_of_le (show xs.length ≤ i by omega))
      rw [HE.out, runIdx] at HU
      go_wp2
      go_ret
      rw [← HU.out]
      exact ⟨rfl, HI.out⟩
set_option maxHeartbeats 1000000 in
theorem any_may {σ : Type} (g0 g1 : Nat) (step : S40 → σ → Bool × σ) (Inv : σ → World → Prop) (A : Option Addr) (xs : List S40) (c : Nat) (v0 : World) (hrow : Kd.C k40 v0 A xs.length xs) (hbase : ∀ s W, Inv s W → Below v0.heap.size v0 W)
    (hp : ∀ x ∈ xs, ∀ s W A4 c4, Inv s W → Kd.C k40 v0 A4 x.f4.length x.f4 → x.f4.length ≤ c4 → Calls Try.prog 114 #[.agg #[.int .i64 x.f0, .string x.f1, .int .i64 x.f2, .int .i64 x.f3, .slice A4 x.f4.length c4], .pointer (some ⟨g0, 0, none⟩), .pointer (some ⟨g1, 0, none⟩)] W fun e w' => e = .returned (.bool (step x s).1) ∧ Inv (step x s).2 w')
    (s0 : σ) (w : World) (h0 : Inv s0 w) :
    Calls Try.prog 72 #[.slice A xs.length c, .func (.func 114) #[] #[.pointer (some ⟨g0, 0, none⟩), .pointer (some ⟨g1, 0, none⟩)]] w fun e w' => e = .returned (.bool (runAny step xs s0).1) ∧ Inv (runAny step xs s0).2 w' := by
  have HC := Aside0.mk (idx_may g0 g1 step Inv A xs c v0 hrow hbase hp s0 w h0)
  have HB := Aside0.mk (runIdx_any step xs 0 s0)
  obtain ⟨r, hr⟩ : ∃ r, runIdx step xs 0 s0 = r := ⟨_, rfl⟩
  rw [hr] at HC HB
  rw [← HB.out.1, ← HB.out.2]
  clear hr hrow hp h0 HB hbase
  obtain ⟨j, s⟩ := r
  obtain ⟨b, hb⟩ : ∃ b, decide (j ≥ 0) = b := ⟨_, rfl⟩
  have hb2 : decide ((0 : Int) ≤ j) = b := hb
  rw [hb]
  go_enter Try.func72, Try.ntmps72
  go_wp2_with (go_at_call 115; refine HC.out.mono ?_; rintro e w' ⟨rfl, hv⟩; have HV := Aside0.mk hv; clear hv)
  go_ret
  exact ⟨rfl, HV.out⟩
end Go.Proofs.Ytgdpabedlghiaaa.Scope
/- scope.Match walked (printed by gen_hscope.py). -/
namespace Go.Proofs.Ytgdpabedlghiaaa.Scope
set_option linter.unusedVariables false
set_option linter.unusedSimpArgs false
open Go.RowKit Go.Proofs.YtgdpabedlghiaaaW.PrintWords Go.Proofs.YtgdpabedlghiaaaW.PrintLast Go.Proofs.YtgdpabedlghiaaaW.PrintMore Go.Proofs.Ytgdpabedlghiaaa.PZ
/-- A block's cells. -/
def Blk (w : World) (g T : Nat) (cs : Array Value) : Prop := w.heap[g]? = some (.cells cs T (0, 0))
theorem Blk.below {w w' : World} {g T : Nat} {cs : Array Value} (h : Blk w g T cs) (hb : Below w.heap.size w w') : Blk w' g T cs := blk_below h hb
theorem Blk.alloc {w : World} {g T : Nat} {cs : Array Value} (h : Blk w g T cs) (o : Obj) : Blk (w.alloc o) g T cs := blk_alloc h o
theorem Blk.lt {w : World} {g T : Nat} {cs : Array Value} (h : Blk w g T cs) : g < w.heap.size := by
  unfold Blk at h
  exact (Array.getElem?_eq_some_iff.1 h).1
theorem Blk.cell {w : World} {g T : Nat} {cs : Array Value} (h : Blk w g T cs) (j : Nat) : w.cell? ⟨g, j, none⟩ = cs[j]? := blk_cell h j
theorem blk3 (w : World) (a b o : Obj) : (((w.alloc a).alloc b).alloc o).heap[w.heap.size + 1 + 1]? = some o := by
  have h := blk_new ((w.alloc a).alloc b) o
  simpa using h
theorem blk2 (w : World) (a o : Obj) : ((w.alloc a).alloc o).heap[w.heap.size + 1]? = some o := by
  have h := blk_new (w.alloc a) o
  simpa using h
theorem kid_lt {x k : S40} (h : k ∈ x.f4) : SizeOf.sizeOf k < SizeOf.sizeOf x := by
  have h1 := List.sizeOf_lt_of_mem h
  cases x
  simp at h1 ⊢
  omega
mutual
/-- Which records a scope matches. -/
def matchB (q1 q2 q3 : ByteArray) (t : Int) : S40 → Bool
  | ⟨op, nm, fr, to_, kids⟩ => if op = 1 then true else if op = 2 then q1.toList == nm.toList else if op = 3 then q2.toList == nm.toList else if op = 4 then q3.toList == nm.toList else if op = 5 then decide (fr ≤ t) && decide (t ≤ to_) else if op = 7 then anyB q1 q2 q3 t kids else if op = 6 then !(exB q1 q2 q3 t kids) else if op = 8 then notB q1 q2 q3 t kids else false
def anyB (q1 q2 q3 : ByteArray) (t : Int) : List S40 → Bool
  | [] => false
  | k :: ks => matchB q1 q2 q3 t k || anyB q1 q2 q3 t ks
def exB (q1 q2 q3 : ByteArray) (t : Int) : List S40 → Bool
  | [] => false
  | k :: ks => !matchB q1 q2 q3 t k || exB q1 q2 q3 t ks
def notB (q1 q2 q3 : ByteArray) (t : Int) : List S40 → Bool
  | [] => true
  | k :: _ => !matchB q1 q2 q3 t k
end
theorem anyB_eq (q1 q2 q3 : ByteArray) (t : Int) : ∀ ks, anyB q1 q2 q3 t ks = ks.any (matchB q1 q2 q3 t)
  | [] => by simp [anyB]
  | k :: ks => by rw [anyB, anyB_eq q1 q2 q3 t ks, List.any_cons]
theorem exB_eq (q1 q2 q3 : ByteArray) (t : Int) : ∀ ks, exB q1 q2 q3 t ks = ks.any (fun k => !matchB q1 q2 q3 t k)
  | [] => by simp [exB]
  | k :: ks => by rw [exB, exB_eq q1 q2 q3 t ks, List.any_cons]
/-- What is known of Match at a scope. -/
def MatchC (q0 q1 q2 q3 : ByteArray) (t u : Int) (x : S40) : Prop := ∀ A c w, Kd.C k40 w A x.f4.length x.f4 → x.f4.length ≤ c →
  Calls Try.prog 29 #[.agg #[.int .i64 x.f0, .string x.f1, .int .i64 x.f2, .int .i64 x.f3, .slice A x.f4.length c], .agg #[.string q0, .string q1, .string q2, .string q3, .int .i64 t, .int .i64 u]] w fun e w' => e = .returned (.bool (matchB q1 q2 q3 t x)) ∧ Below w.heap.size w w'
set_option maxHeartbeats 1000000 in
set_option maxRecDepth 100000 in
theorem m1_c {q0 q1 q2 q3 : ByteArray} {t u : Int} {x : S40} (hm : MatchC q0 q1 q2 q3 t u x) (g : Nat) (A : Option Addr) (c : Nat) (w : World) (hg : Blk w g 46 #[.string q0, .string q1, .string q2, .string q3, .int .i64 t, .int .i64 u]) (hr : Kd.C k40 w A x.f4.length x.f4) (hc : x.f4.length ≤ c) :
    Calls Try.prog 71 #[.agg #[.int .i64 x.f0, .string x.f1, .int .i64 x.f2, .int .i64 x.f3, .slice A x.f4.length c], .pointer (some ⟨g, 0, none⟩)] w fun e w' => e = .returned (.bool (matchB q1 q2 q3 t x)) ∧ Below w.heap.size w w' := by
  have HG := Aside0.mk (hg.alloc (.cells #[.int .i64 x.f0, .string x.f1, .int .i64 x.f2, .int .i64 x.f3, .slice A x.f4.length c] 40))
  have HB := Aside0.mk (below_alloc (Below.refl w.heap.size w) (.cells #[.int .i64 x.f0, .string x.f1, .int .i64 x.f2, .int .i64 x.f3, .slice A x.f4.length c] 40))
  have HC := Aside0.mk (fun W h => hm A c W h hc)
  have HR := Aside0.mk hr
  have hu46 := Try.underlying46
  have hu40 := Try.underlying40
  have d0 := HG.out.cell 0
  have d1 := HG.out.cell 1
  have d2 := HG.out.cell 2
  have d3 := HG.out.cell 3
  have d4 := HG.out.cell 4
  have d5 := HG.out.cell 5
  simp only [List.getElem?_toArray, List.getElem?_cons_zero, List.getElem?_cons_succ] at d0 d1 d2 d3 d4 d5
  obtain ⟨b, hb⟩ : ∃ b, matchB q1 q2 q3 t x = b := ⟨_, rfl⟩
  rw [hb] at HC ⊢
  clear hm hg hr hc hb
  go_enter Try.func71, Try.ntmps71
  go_wp2_with (go_at_call 29; refine (HC.out _ (Kd.C_below HR.out HB.out)).mono ?_; rintro e w' ⟨rfl, hb⟩; have HF := Aside0.mk (below_step HB.out hb); clear hb)
  go_ret
  exact ⟨rfl, HF.out⟩
set_option maxHeartbeats 1000000 in
set_option maxRecDepth 100000 in
theorem m2_c {q0 q1 q2 q3 : ByteArray} {t u : Int} {x : S40} (hm : MatchC q0 q1 q2 q3 t u x) (g m : Nat) (T : Nat) (A : Option Addr) (c : Nat) (w : World) (hg : Blk w g 46 #[.string q0, .string q1, .string q2, .string q3, .int .i64 t, .int .i64 u]) (hmm : Blk w m T #[.func (.func 71) #[] #[.pointer (some ⟨g, 0, none⟩)]]) (hr : Kd.C k40 w A x.f4.length x.f4) (hc : x.f4.length ≤ c) :
    Calls Try.prog 73 #[.agg #[.int .i64 x.f0, .string x.f1, .int .i64 x.f2, .int .i64 x.f3, .slice A x.f4.length c], .pointer (some ⟨m, 0, none⟩)] w fun e w' => e = .returned (.bool (!matchB q1 q2 q3 t x)) ∧ Below w.heap.size w w' := by
  have HG := Aside0.mk (hg.alloc (.cells #[.int .i64 x.f0, .string x.f1, .int .i64 x.f2, .int .i64 x.f3, .slice A x.f4.length c] 40))
  have HM := Aside0.mk (hmm.alloc (.cells #[.int .i64 x.f0, .string x.f1, .int .i64 x.f2, .int .i64 x.f3, .slice A x.f4.length c] 40))
  have HB := Aside0.mk (below_alloc (Below.refl w.heap.size w) (.cells #[.int .i64 x.f0, .string x.f1, .int .i64 x.f2, .int .i64 x.f3, .slice A x.f4.length c] 40))
  have HC := Aside0.mk (fun W h1 h2 => m1_c hm g A c W h1 h2 hc)
  have HR := Aside0.mk hr
  have hu40 := Try.underlying40
  have d0 := HM.out.cell 0
  simp only [List.getElem?_toArray, List.getElem?_cons_zero] at d0
  obtain ⟨b, hb⟩ : ∃ b, matchB q1 q2 q3 t x = b := ⟨_, rfl⟩
  rw [hb] at HC ⊢
  clear hm hg hr hc hb hmm
  go_enter Try.func73, Try.ntmps73
  go_wp2_with (go_at_call 71; refine (HC.out _ HG.out (Kd.C_below HR.out HB.out)).mono ?_; rintro e w' ⟨rfl, hb⟩; have HF := Aside0.mk (below_step HB.out hb); clear hb)
  go_ret
  exact ⟨rfl, HF.out⟩
set_option maxHeartbeats 4000000 in
set_option maxRecDepth 100000 in
theorem match_n (q0 q1 q2 q3 : ByteArray) (t u : Int) : ∀ (n : Nat) (x : S40), SizeOf.sizeOf x < n → MatchC q0 q1 q2 q3 t u x := by
  intro n
  induction n with
  | zero => intro x h; exact absurd h (by omega)
  | succ n ih =>
  intro x hn A c w hr hc
  have HK := Aside0.mk (fun k (hk : k ∈ x.f4) => ih k (by have := kid_lt hk; omega))
  have HR := Aside0.mk hr
  have HC := Aside0.mk hc
  have HV := Aside0.mk (show matchB q1 q2 q3 t x = if x.f0 = 1 then true else if x.f0 = 2 then q1.toList == x.f1.toList else if x.f0 = 3 then q2.toList == x.f1.toList else if x.f0 = 4 then q3.toList == x.f1.toList else if x.f0 = 5 then decide (x.f2 ≤ t) && decide (t ≤ x.f3) else if x.f0 = 7 then x.f4.any (matchB q1 q2 q3 t) else if x.f0 = 6 then !(x.f4.any (fun k => !matchB q1 q2 q3 t k)) else if x.f0 = 8 then notB q1 q2 q3 t x.f4 else false by
    obtain ⟨op, nm, fr, to_, kids⟩ := x
    simp only [matchB, anyB_eq, exB_eq])
  have HG := Aside0.mk (show Blk (((w.alloc (.cells #[.int .i64 x.f0, .string x.f1, .int .i64 x.f2, .int .i64 x.f3, .slice A x.f4.length c] 40)).alloc (.cells #[.string q0, .string q1, .string q2, .string q3, .int .i64 t, .int .i64 u] 46)).alloc (.cells #[.func (.func 71) #[] #[.pointer (some ⟨w.heap.size + 1, 0, none⟩)]] 41)) (w.heap.size + 1) 46 #[.string q0, .string q1, .string q2, .string q3, .int .i64 t, .int .i64 u] from blk_alloc (blk2 _ _ _) _)
  have HM := Aside0.mk (show Blk (((w.alloc (.cells #[.int .i64 x.f0, .string x.f1, .int .i64 x.f2, .int .i64 x.f3, .slice A x.f4.length c] 40)).alloc (.cells #[.string q0, .string q1, .string q2, .string q3, .int .i64 t, .int .i64 u] 46)).alloc (.cells #[.func (.func 71) #[] #[.pointer (some ⟨w.heap.size + 1, 0, none⟩)]] 41)) (w.heap.size + 1 + 1) 41 #[.func (.func 71) #[] #[.pointer (some ⟨w.heap.size + 1, 0, none⟩)]] from blk3 _ _ _ _)
  have HB := Aside0.mk (show Below w.heap.size w (((w.alloc (.cells #[.int .i64 x.f0, .string x.f1, .int .i64 x.f2, .int .i64 x.f3, .slice A x.f4.length c] 40)).alloc (.cells #[.string q0, .string q1, .string q2, .string q3, .int .i64 t, .int .i64 u] 46)).alloc (.cells #[.func (.func 71) #[] #[.pointer (some ⟨w.heap.size + 1, 0, none⟩)]] 41)) from below_alloc (below_alloc (below_alloc (Below.refl _ _) _) _) _)
  have hu46 := Try.underlying46
  have hu40 := Try.underlying40
  have hu38 := Try.underlying38
  clear hr hc hn ih
  obtain ⟨bb, hbb⟩ : ∃ bb, matchB q1 q2 q3 t x = bb := ⟨_, rfl⟩
  rw [hbb] at HV ⊢
  clear hbb
  by_cases e1 : x.f0 = 1
  · have z1 : (x.f0 == 1) = true := beq_iff_eq.mpr e1
    have HV1 := HV.out
    rw [if_pos e1] at HV1
    clear HV e1
    subst HV1
    go_enter Try.func29, Try.ntmps29
    go_wp2
    go_ret
    exact ⟨rfl, HB.out⟩
  · have z1 : (x.f0 == 1) = false := beq_eq_false_iff_ne.mpr e1
    by_cases e2 : x.f0 = 2
    · have z2 : (x.f0 == 2) = true := beq_iff_eq.mpr e2
      have HV1 := HV.out
      rw [if_neg e1] at HV1
      rw [if_pos e2] at HV1
      clear HV e1 e2
      subst HV1
      go_enter Try.func29, Try.ntmps29
      go_wp2
      go_ret
      exact ⟨rfl, HB.out⟩
    · have z2 : (x.f0 == 2) = false := beq_eq_false_iff_ne.mpr e2
      by_cases e3 : x.f0 = 3
      · have z3 : (x.f0 == 3) = true := beq_iff_eq.mpr e3
        have HV1 := HV.out
        rw [if_neg e1] at HV1
        rw [if_neg e2] at HV1
        rw [if_pos e3] at HV1
        clear HV e1 e2 e3
        subst HV1
        go_enter Try.func29, Try.ntmps29
        go_wp2
        go_ret
        exact ⟨rfl, HB.out⟩
      · have z3 : (x.f0 == 3) = false := beq_eq_false_iff_ne.mpr e3
        by_cases e4 : x.f0 = 4
        · have z4 : (x.f0 == 4) = true := beq_iff_eq.mpr e4
          have HV1 := HV.out
          rw [if_neg e1] at HV1
          rw [if_neg e2] at HV1
          rw [if_neg e3] at HV1
          rw [if_pos e4] at HV1
          clear HV e1 e2 e3 e4
          subst HV1
          go_enter Try.func29, Try.ntmps29
          go_wp2
          go_ret
          exact ⟨rfl, HB.out⟩
        · have z4 : (x.f0 == 4) = false := beq_eq_false_iff_ne.mpr e4
          by_cases e5 : x.f0 = 5
          · have z5 : (x.f0 == 5) = true := beq_iff_eq.mpr e5
            have HV1 := HV.out
            rw [if_neg e1] at HV1
            rw [if_neg e2] at HV1
            rw [if_neg e3] at HV1
            rw [if_neg e4] at HV1
            rw [if_pos e5] at HV1
            clear HV e1 e2 e3 e4 e5
            obtain ⟨b1, hb1⟩ : ∃ b, decide (x.f2 ≤ t) = b := ⟨_, rfl⟩
            obtain ⟨b2, hb2⟩ : ∃ b, decide (t ≤ x.f3) = b := ⟨_, rfl⟩
            rw [hb1, hb2] at HV1
            subst HV1
            cases b1 <;> cases b2
            all_goals
              go_enter Try.func29, Try.ntmps29
              go_wp2
              go_ret
              exact ⟨rfl, HB.out⟩
          · have z5 : (x.f0 == 5) = false := beq_eq_false_iff_ne.mpr e5
            by_cases e7 : x.f0 = 7
            · have z7 : (x.f0 == 7) = true := beq_iff_eq.mpr e7
              have HV1 := HV.out
              rw [if_neg e1] at HV1
              rw [if_neg e2] at HV1
              rw [if_neg e3] at HV1
              rw [if_neg e4] at HV1
              rw [if_neg e5] at HV1
              rw [if_pos e7] at HV1
              clear HV e1 e2 e3 e4 e5 e7
              have HA := Aside0.mk (any_m1 (w.heap.size + 1) (fun k (_ : Unit) => ((matchB q1 q2 q3 t) k, ())) (fun _ W => Blk W (w.heap.size + 1) 46 #[.string q0, .string q1, .string q2, .string q3, .int .i64 t, .int .i64 u] ∧ Blk W (w.heap.size + 1 + 1) 41 #[.func (.func 71) #[] #[.pointer (some ⟨w.heap.size + 1, 0, none⟩)]] ∧ Below w.heap.size w W) A x.f4 c w HR.out (fun _ W h => h.2.2) (by
                intro k hk _ W A4 c4 hi h1 h2
                refine (m1_c (HK.out k hk) (w.heap.size + 1) A4 c4 W hi.1 (Kd.C_below h1 hi.2.2) h2).mono ?_
                rintro e w' ⟨rfl, hb⟩
                exact ⟨rfl, hi.1.below hb, hi.2.1.below hb, below_step hi.2.2 hb⟩) () _ ⟨HG.out, HM.out, HB.out⟩)
              rw [runAny_pure] at HA
              obtain ⟨ab, hab⟩ : ∃ b, x.f4.any (matchB q1 q2 q3 t) = b := ⟨_, rfl⟩
              rw [hab] at HA HV1
              subst HV1
              clear hab HG HM HK
              go_enter Try.func29, Try.ntmps29
              go_wp2_with (go_at_call 72; refine HA.out.mono ?_; rintro e w' ⟨rfl, hv⟩; have HF := Aside0.mk hv.2.2; clear hv)
              go_ret
              exact ⟨rfl, HF.out⟩
            · have z7 : (x.f0 == 7) = false := beq_eq_false_iff_ne.mpr e7
              by_cases e6 : x.f0 = 6
              · have z6 : (x.f0 == 6) = true := beq_iff_eq.mpr e6
                have HV1 := HV.out
                rw [if_neg e1] at HV1
                rw [if_neg e2] at HV1
                rw [if_neg e3] at HV1
                rw [if_neg e4] at HV1
                rw [if_neg e5] at HV1
                rw [if_neg e7] at HV1
                rw [if_pos e6] at HV1
                clear HV e1 e2 e3 e4 e5 e7 e6
                have HA := Aside0.mk (any_m2 (w.heap.size + 1 + 1) (fun k (_ : Unit) => ((fun k => !matchB q1 q2 q3 t k) k, ())) (fun _ W => Blk W (w.heap.size + 1) 46 #[.string q0, .string q1, .string q2, .string q3, .int .i64 t, .int .i64 u] ∧ Blk W (w.heap.size + 1 + 1) 41 #[.func (.func 71) #[] #[.pointer (some ⟨w.heap.size + 1, 0, none⟩)]] ∧ Below w.heap.size w W) A x.f4 c w HR.out (fun _ W h => h.2.2) (by
                  intro k hk _ W A4 c4 hi h1 h2
                  refine (m2_c (HK.out k hk) (w.heap.size + 1) (w.heap.size + 1 + 1) 41 A4 c4 W hi.1 hi.2.1 (Kd.C_below h1 hi.2.2) h2).mono ?_
                  rintro e w' ⟨rfl, hb⟩
                  exact ⟨rfl, hi.1.below hb, hi.2.1.below hb, below_step hi.2.2 hb⟩) () _ ⟨HG.out, HM.out, HB.out⟩)
                rw [runAny_pure] at HA
                obtain ⟨ab, hab⟩ : ∃ b, x.f4.any (fun k => !matchB q1 q2 q3 t k) = b := ⟨_, rfl⟩
                rw [hab] at HA HV1
                subst HV1
                clear hab HG HM HK
                go_enter Try.func29, Try.ntmps29
                go_wp2_with (go_at_call 72; refine HA.out.mono ?_; rintro e w' ⟨rfl, hv⟩; have HF := Aside0.mk hv.2.2; clear hv)
                go_ret
                exact ⟨rfl, HF.out⟩
              · have z6 : (x.f0 == 6) = false := beq_eq_false_iff_ne.mpr e6
                by_cases e8 : x.f0 = 8
                · have z8 : (x.f0 == 8) = true := beq_iff_eq.mpr e8
                  have HV1 := HV.out
                  rw [if_neg e1] at HV1
                  rw [if_neg e2] at HV1
                  rw [if_neg e3] at HV1
                  rw [if_neg e4] at HV1
                  rw [if_neg e5] at HV1
                  rw [if_neg e7] at HV1
                  rw [if_neg e6] at HV1
                  rw [if_pos e8] at HV1
                  clear HV e1 e2 e3 e4 e5 e7 e6 e8
                  by_cases hk : x.f4.length = 0
                  · have zz : ((x.f4.length : Int) == 0) = true := beq_iff_eq.mpr (by omega)
                    rw [List.eq_nil_of_length_eq_zero hk, notB] at HV1
                    subst HV1
                    clear hk HK HG HM
                    go_enter Try.func29, Try.ntmps29
                    go_upto_region 18 with (fail)
                    obtain ⟨W, hW⟩ : ∃ W, (((w.alloc (.cells #[.int .i64 x.f0, .string x.f1, .int .i64 x.f2, .int .i64 x.f3, .slice A x.f4.length c] 40)).alloc (.cells #[.string q0, .string q1, .string q2, .string q3, .int .i64 t, .int .i64 u] 46)).alloc (.cells #[.func (.func 71) #[] #[.pointer (some ⟨w.heap.size + 1, 0, none⟩)]] 41)) = W := ⟨_, rfl⟩
                    have HT := Aside0.mk (show Blk W w.heap.size 40 #[.int .i64 x.f0, .string x.f1, .int .i64 x.f2, .int .i64 x.f3, .slice A x.f4.length c] by rw [← hW]; exact blk_alloc (blk_alloc (blk_new _ _) _) _)
                    rw [hW] at HB ⊢
                    clear hW
                    have d4 := HT.out.cell 4
                    simp only [List.getElem?_toArray, List.getElem?_cons_zero, List.getElem?_cons_succ] at d4
                    refine wp_region_held_drew (S := fun W1 => W1.cell? ⟨w.heap.size, 4, none⟩ = some (.slice A x.f4.length c)) (by kernel_rfl) (((below_drew1 (Below.refl W.heap.size W)).cell (World.block_lt_of_cell? _ _ d4)).trans d4) (fun hHeld => ?_)
                    (refine wpAnyH_take (i := 0) (v := ?_) rfl (by kernel_rfl) (by kernel_rfl) (by kernel_rfl) (fun _ _ _ h => h) (Or.inl ⟨by rfl, ?_⟩) (by assumption) ?_; (case' refine_2 => (intro w hSw; go_simp; try with_reducible rfl)); (try simp only [Act.put, List.getElem_toArray, List.getElem_cons_zero, List.getElem_cons_succ, List.setIfInBounds_toArray, List.set_cons_zero, List.set_cons_succ]))
                    (refine wpAnyH_take (i := 1) (v := ?_) rfl (by kernel_rfl) (by kernel_rfl) (by kernel_rfl) (fun _ _ _ h => h) (Or.inl ⟨by rfl, ?_⟩) (by assumption) ?_; (case' refine_2 => (intro w hSw; go_simp; try with_reducible rfl)); (try simp only [Act.put, List.getElem_toArray, List.getElem_cons_zero, List.getElem_cons_succ, List.setIfInBounds_toArray, List.set_cons_zero, List.set_cons_succ]))
                    (refine wpAnyH_take (i := 2) (v := ?_) rfl (by kernel_rfl) (by kernel_rfl) (by kernel_rfl) (fun _ _ _ h => h) (Or.inl ⟨by rfl, ?_⟩) (by assumption) ?_; (case' refine_2 => (intro w hSw; go_simp; try with_reducible rfl)); (try simp only [Act.put, List.getElem_toArray, List.getElem_cons_zero, List.getElem_cons_succ, List.setIfInBounds_toArray, List.set_cons_zero, List.set_cons_succ]))
                    (refine wpAnyH_take (i := 3) (v := ?_) rfl (by kernel_rfl) (by kernel_rfl) (by kernel_rfl) (fun _ _ _ h => h) (Or.inl ⟨by rfl, ?_⟩) (by assumption) ?_; (case' refine_2 => (intro w hSw; go_simp; try with_reducible rfl)); (try simp only [Act.put, List.getElem_toArray, List.getElem_cons_zero, List.getElem_cons_succ, List.setIfInBounds_toArray, List.set_cons_zero, List.set_cons_succ]))
                    (refine wpAnyH_take (i := 4) (v := ?_) rfl (by kernel_rfl) (by kernel_rfl) (by kernel_rfl) (fun _ _ _ h => h) (Or.inl ⟨by rfl, ?_⟩) (by assumption) ?_; (case' refine_2 => (intro w hSw; go_simp; try with_reducible rfl)); (try simp only [Act.put, List.getElem_toArray, List.getElem_cons_zero, List.getElem_cons_succ, List.setIfInBounds_toArray, List.set_cons_zero, List.set_cons_succ]))
                    (refine wpAnyH_take (i := 5) (v := undef) rfl (by kernel_rfl) (by kernel_rfl) (by kernel_rfl) (fun _ _ _ h => h) (Or.inr ⟨by rfl, rfl⟩) (by assumption) ?_; (try simp only [Act.put, List.getElem_toArray, List.getElem_cons_zero, List.getElem_cons_succ, List.setIfInBounds_toArray, List.set_cons_zero, List.set_cons_succ]))
                    (refine wpAnyH_take (i := 6) (v := undef) rfl (by kernel_rfl) (by kernel_rfl) (by kernel_rfl) (fun _ _ _ h => h) (Or.inr ⟨by rfl, rfl⟩) (by assumption) ?_; (try simp only [Act.put, List.getElem_toArray, List.getElem_cons_zero, List.getElem_cons_succ, List.setIfInBounds_toArray, List.set_cons_zero, List.set_cons_succ]))
                    (refine wpAnyH_take (i := 7) (v := undef) rfl (by kernel_rfl) (by kernel_rfl) (by kernel_rfl) (fun _ _ _ h => h) (Or.inr ⟨by rfl, rfl⟩) (by assumption) ?_; (try simp only [Act.put, List.getElem_toArray, List.getElem_cons_zero, List.getElem_cons_succ, List.setIfInBounds_toArray, List.set_cons_zero, List.set_cons_succ]))
                    (refine wpAnyH_take (i := 8) (v := undef) rfl (by kernel_rfl) (by kernel_rfl) (by kernel_rfl) (fun _ _ _ h => h) (Or.inr ⟨by rfl, rfl⟩) (by assumption) ?_; (try simp only [Act.put, List.getElem_toArray, List.getElem_cons_zero, List.getElem_cons_succ, List.setIfInBounds_toArray, List.set_cons_zero, List.set_cons_succ]))
                    (refine wpAnyH_take (i := 9) (v := undef) rfl (by kernel_rfl) (by kernel_rfl) (by kernel_rfl) (fun _ _ _ h => h) (Or.inr ⟨by rfl, rfl⟩) (by assumption) ?_; (try simp only [Act.put, List.getElem_toArray, List.getElem_cons_zero, List.getElem_cons_succ, List.setIfInBounds_toArray, List.set_cons_zero, List.set_cons_succ]))
                    (refine wpAnyH_take (i := 10) (v := undef) rfl (by kernel_rfl) (by kernel_rfl) (by kernel_rfl) (fun _ _ _ h => h) (Or.inr ⟨by rfl, rfl⟩) (by assumption) ?_; (try simp only [Act.put, List.getElem_toArray, List.getElem_cons_zero, List.getElem_cons_succ, List.setIfInBounds_toArray, List.set_cons_zero, List.set_cons_succ]))
                    (refine wpAnyH_take (i := 11) (v := undef) rfl (by kernel_rfl) (by kernel_rfl) (by kernel_rfl) (fun _ _ _ h => h) (Or.inr ⟨by rfl, rfl⟩) (by assumption) ?_; (try simp only [Act.put, List.getElem_toArray, List.getElem_cons_zero, List.getElem_cons_succ, List.setIfInBounds_toArray, List.set_cons_zero, List.set_cons_succ]))
                    (refine wpAnyH_take (i := 12) (v := ?_) rfl (by kernel_rfl) (by kernel_rfl) (by kernel_rfl) (fun _ _ _ h => h) (Or.inl ⟨by rfl, ?_⟩) (by assumption) ?_; (case' refine_2 => (intro w hSw; go_simp; try with_reducible rfl)); (try simp only [Act.put, List.getElem_toArray, List.getElem_cons_zero, List.getElem_cons_succ, List.setIfInBounds_toArray, List.set_cons_zero, List.set_cons_succ]))
                    (refine wpAnyH_take (i := 13) (v := ?_) rfl (by kernel_rfl) (by kernel_rfl) (by kernel_rfl) (fun _ _ _ h => h) (Or.inl ⟨by rfl, ?_⟩) (by assumption) ?_; (case' refine_2 => (intro w hSw; go_simp; try with_reducible rfl)); (try simp only [Act.put, List.getElem_toArray, List.getElem_cons_zero, List.getElem_cons_succ, List.setIfInBounds_toArray, List.set_cons_zero, List.set_cons_succ]))
                    refine wpAnyH_done (by kernel_rfl) ?_ _
                    go_wp2
                    go_ret
                    exact ⟨rfl, below_drew1 HB.out⟩
                  · have zz : ((x.f4.length : Int) == 0) = false := beq_eq_false_iff_ne.mpr (by omega)
                    have p2 : (0 : Int) < (x.f4.length : Int) := by omega
                    obtain ⟨k0, hk0, hv0⟩ : ∃ k0, k0 ∈ x.f4 ∧ rd_T40 x.f4 0 = k0 ∧ notB q1 q2 q3 t x.f4 = !matchB q1 q2 q3 t k0 := by
                      cases hx : x.f4 with
                      | nil => rw [hx] at hk; exact absurd rfl hk
                      | cons k ks => exact ⟨k, List.mem_cons_self, by simp [rd_T40], by simp [notB]⟩
                    obtain ⟨hrd, hv0⟩ := hv0
                    rw [hv0] at HV1
                    have HM0 := Aside0.mk (HK.out k0 hk0)
                    obtain ⟨b, hb⟩ : ∃ b, matchB q1 q2 q3 t k0 = b := ⟨_, rfl⟩
                    rw [hb] at HV1
                    subst HV1
                    go_enter Try.func29, Try.ntmps29
                    go_upto_region 18 with (fail)
                    obtain ⟨W, hW⟩ : ∃ W, (((w.alloc (.cells #[.int .i64 x.f0, .string x.f1, .int .i64 x.f2, .int .i64 x.f3, .slice A x.f4.length c] 40)).alloc (.cells #[.string q0, .string q1, .string q2, .string q3, .int .i64 t, .int .i64 u] 46)).alloc (.cells #[.func (.func 71) #[] #[.pointer (some ⟨w.heap.size + 1, 0, none⟩)]] 41)) = W := ⟨_, rfl⟩
                    have HT := Aside0.mk (show Blk W w.heap.size 40 #[.int .i64 x.f0, .string x.f1, .int .i64 x.f2, .int .i64 x.f3, .slice A x.f4.length c] by rw [← hW]; exact blk_alloc (blk_alloc (blk_new _ _) _) _)
                    rw [hW] at HB HG HM ⊢
                    clear hW
                    obtain ⟨ad, A4, c4, rfl, hx0, hx1, hx2, hx3, hx4, hl4, hi4⟩ := at_T40 (Kd.C_below HR.out HB.out) 0 (by omega) p2
                    rw [hrd] at hx0 hx1 hx2 hx3 hx4 hl4 hi4
                    simp only [Int.toNat_zero, Nat.zero_mul, Addr.add_zero'] at hx0 hx1 hx2 hx3 hx4
                    have HC0 := Aside0.mk (fun W1 (h1 : Blk W1 (w.heap.size + 1) 46 #[.string q0, .string q1, .string q2, .string q3, .int .i64 t, .int .i64 u]) (h2 : Kd.C k40 W1 A4 k0.f4.length k0.f4) => m1_c HM0.out (w.heap.size + 1) A4 c4 W1 h1 h2 hl4)
                    rw [hb] at HC0
                    have HI4 := Aside0.mk hi4
                    have HGd := Aside0.mk (HG.out.below (below_drew1 (Below.refl _ _)))
                    have HBd := Aside0.mk (below_drew1 HB.out)
                    have HId := Aside0.mk (Kd.C_below hi4 (below_drew1 (Below.refl _ _)))
                    clear hi4 hl4 hrd hk hk0 hv0 hb HK HM0
                    have p3 : 0 < x.f4.length := by omega
                    have d4 := HT.out.cell 4
                    have m0 := HM.out.cell 0
                    simp only [List.getElem?_toArray, List.getElem?_cons_zero, List.getElem?_cons_succ] at d4 m0
                    have hd_ := below_drew1 (Below.refl W.heap.size W)
                    have HSd4 := Aside0.mk ((hd_.cell (World.block_lt_of_cell? _ _ d4)).trans d4)
                    have HSm0 := Aside0.mk ((hd_.cell (World.block_lt_of_cell? _ _ m0)).trans m0)
                    have HShx0 := Aside0.mk ((hd_.cell (World.block_lt_of_cell? _ _ hx0)).trans hx0)
                    have HShx1 := Aside0.mk ((hd_.cell (World.block_lt_of_cell? _ _ hx1)).trans hx1)
                    have HShx2 := Aside0.mk ((hd_.cell (World.block_lt_of_cell? _ _ hx2)).trans hx2)
                    have HShx3 := Aside0.mk ((hd_.cell (World.block_lt_of_cell? _ _ hx3)).trans hx3)
                    have HShx4 := Aside0.mk ((hd_.cell (World.block_lt_of_cell? _ _ hx4)).trans hx4)
                    clear hd_ d4 m0 hx0 hx1 hx2 hx3 hx4
                    refine wp_region_held_drew (S := fun W1 => W1.cell? ⟨w.heap.size, 4, none⟩ = some (.slice (some ad) x.f4.length c) ∧ W1.cell? ⟨w.heap.size + 1 + 1, 0, none⟩ = some (.func (.func 71) #[] #[.pointer (some ⟨w.heap.size + 1, 0, none⟩)]) ∧ W1.cell? ad = some (.int .i64 k0.f0) ∧ W1.cell? ⟨ad.block, ad.off + 1, none⟩ = some (.string k0.f1) ∧ W1.cell? ⟨ad.block, ad.off + 2, none⟩ = some (.int .i64 k0.f2) ∧ W1.cell? ⟨ad.block, ad.off + 3, none⟩ = some (.int .i64 k0.f3) ∧ W1.cell? ⟨ad.block, ad.off + 4, none⟩ = some (.slice A4 k0.f4.length c4)) (by kernel_rfl) ⟨HSd4.out, HSm0.out, HShx0.out, HShx1.out, HShx2.out, HShx3.out, HShx4.out⟩ (fun hHeld => ?_)
                    (refine wpAnyH_take (i := 0) (v := ?_) rfl (by kernel_rfl) (by kernel_rfl) (by kernel_rfl) (fun _ _ _ h => h) (Or.inl ⟨by rfl, ?_⟩) (by assumption) ?_; (case' refine_2 => (intro w hSw; go_simp; try with_reducible rfl)); (try simp only [Act.put, List.getElem_toArray, List.getElem_cons_zero, List.getElem_cons_succ, List.setIfInBounds_toArray, List.set_cons_zero, List.set_cons_succ]))
                    (refine wpAnyH_take (i := 1) (v := ?_) rfl (by kernel_rfl) (by kernel_rfl) (by kernel_rfl) (fun _ _ _ h => h) (Or.inl ⟨by rfl, ?_⟩) (by assumption) ?_; (case' refine_2 => (intro w hSw; go_simp; try with_reducible rfl)); (try simp only [Act.put, List.getElem_toArray, List.getElem_cons_zero, List.getElem_cons_succ, List.setIfInBounds_toArray, List.set_cons_zero, List.set_cons_succ]))
                    (refine wpAnyH_take (i := 2) (v := ?_) rfl (by kernel_rfl) (by kernel_rfl) (by kernel_rfl) (fun _ _ _ h => h) (Or.inl ⟨by rfl, ?_⟩) (by assumption) ?_; (case' refine_2 => (intro w hSw; go_simp; try with_reducible rfl)); (try simp only [Act.put, List.getElem_toArray, List.getElem_cons_zero, List.getElem_cons_succ, List.setIfInBounds_toArray, List.set_cons_zero, List.set_cons_succ]))
                    (refine wpAnyH_take (i := 3) (v := ?_) rfl (by kernel_rfl) (by kernel_rfl) (by kernel_rfl) (fun _ _ _ h => h) (Or.inl ⟨by rfl, ?_⟩) (by assumption) ?_; (case' refine_2 => (intro w hSw; go_simp; try with_reducible rfl)); (try simp only [Act.put, List.getElem_toArray, List.getElem_cons_zero, List.getElem_cons_succ, List.setIfInBounds_toArray, List.set_cons_zero, List.set_cons_succ]))
                    (refine wpAnyH_take (i := 4) (v := ?_) rfl (by kernel_rfl) (by kernel_rfl) (by kernel_rfl) (fun _ _ _ h => h) (Or.inl ⟨by rfl, ?_⟩) (by assumption) ?_; (case' refine_2 => (intro w hSw; go_simp; try with_reducible rfl)); (try simp only [Act.put, List.getElem_toArray, List.getElem_cons_zero, List.getElem_cons_succ, List.setIfInBounds_toArray, List.set_cons_zero, List.set_cons_succ]))
                    (refine wpAnyH_take (i := 5) (v := ?_) rfl (by kernel_rfl) (by kernel_rfl) (by kernel_rfl) (fun _ _ _ h => h) (Or.inl ⟨by rfl, ?_⟩) (by assumption) ?_; (case' refine_2 => (intro w hSw; go_simp; try with_reducible rfl)); (try simp only [Act.put, List.getElem_toArray, List.getElem_cons_zero, List.getElem_cons_succ, List.setIfInBounds_toArray, List.set_cons_zero, List.set_cons_succ]))
                    (refine wpAnyH_take (i := 6) (v := ?_) rfl (by kernel_rfl) (by kernel_rfl) (by kernel_rfl) (fun _ _ _ h => h) (Or.inl ⟨by rfl, ?_⟩) (by assumption) ?_; (case' refine_2 => (intro w hSw; go_simp; try with_reducible rfl)); (try simp only [Act.put, List.getElem_toArray, List.getElem_cons_zero, List.getElem_cons_succ, List.setIfInBounds_toArray, List.set_cons_zero, List.set_cons_succ]))
                    (refine wpAnyH_take (i := 7) (v := ?_) rfl (by kernel_rfl) (by kernel_rfl) (by kernel_rfl) (fun _ _ _ h => h) (Or.inl ⟨by rfl, ?_⟩) (by assumption) ?_; (case' refine_2 => (intro w hSw; go_simp; try with_reducible rfl)); (try simp only [Act.put, List.getElem_toArray, List.getElem_cons_zero, List.getElem_cons_succ, List.setIfInBounds_toArray, List.set_cons_zero, List.set_cons_succ]))
                    (refine wpAnyH_take (i := 8) (v := ?_) rfl (by kernel_rfl) (by kernel_rfl) (by kernel_rfl) (fun _ _ _ h => h) (Or.inl ⟨by rfl, ?_⟩) (by assumption) ?_; (case' refine_2 => (intro w hSw; go_simp; try with_reducible rfl)); (try simp only [Act.put, List.getElem_toArray, List.getElem_cons_zero, List.getElem_cons_succ, List.setIfInBounds_toArray, List.set_cons_zero, List.set_cons_succ]))
                    (refine wpAnyH_take (i := 9) (v := ?_) rfl (by kernel_rfl) (by kernel_rfl) (by kernel_rfl) (fun _ _ _ h => h) (Or.inl ⟨by rfl, ?_⟩) (by assumption) ?_; (case' refine_2 => (intro w hSw; go_simp; try with_reducible rfl)); (try simp only [Act.put, List.getElem_toArray, List.getElem_cons_zero, List.getElem_cons_succ, List.setIfInBounds_toArray, List.set_cons_zero, List.set_cons_succ]))
                    (refine wpAnyH_ready (rs := [10]) (by kernel_rfl) (by simp) (AllReadyH.cons rfl (fun K hK => ?_) AllReadyH.nil); go_simp)
                    refine (HC0.out _ HGd.out HId.out).mono ?_
                    rintro e w' ⟨rfl, hb⟩
                    have HF := Aside0.mk (below_step HBd.out hb)
                    (refine Shut.out hK _ _ ⟨(hb.cell (World.block_lt_of_cell? _ _ HSd4.out)).trans HSd4.out, (hb.cell (World.block_lt_of_cell? _ _ HSm0.out)).trans HSm0.out, (hb.cell (World.block_lt_of_cell? _ _ HShx0.out)).trans HShx0.out, (hb.cell (World.block_lt_of_cell? _ _ HShx1.out)).trans HShx1.out, (hb.cell (World.block_lt_of_cell? _ _ HShx2.out)).trans HShx2.out, (hb.cell (World.block_lt_of_cell? _ _ HShx3.out)).trans HShx3.out, (hb.cell (World.block_lt_of_cell? _ _ HShx4.out)).trans HShx4.out⟩ (fun hHeld => ?_); clear hK K; (try simp only [Act.put, List.getElem_toArray, List.getElem_cons_zero, List.getElem_cons_succ, List.setIfInBounds_toArray, List.set_cons_zero, List.set_cons_succ]))
                    (refine wpAnyH_take (i := 11) (v := ?_) rfl (by kernel_rfl) (by kernel_rfl) (by kernel_rfl) (fun _ _ _ h => h) (Or.inl ⟨by rfl, ?_⟩) (by assumption) ?_; (case' refine_2 => (intro w hSw; go_simp; try with_reducible rfl)); (try simp only [Act.put, List.getElem_toArray, List.getElem_cons_zero, List.getElem_cons_succ, List.setIfInBounds_toArray, List.set_cons_zero, List.set_cons_succ]))
                    (refine wpAnyH_take (i := 12) (v := ?_) rfl (by kernel_rfl) (by kernel_rfl) (by kernel_rfl) (fun _ _ _ h => h) (Or.inl ⟨by rfl, ?_⟩) (by assumption) ?_; (case' refine_2 => (intro w hSw; go_simp; try with_reducible rfl)); (try simp only [Act.put, List.getElem_toArray, List.getElem_cons_zero, List.getElem_cons_succ, List.setIfInBounds_toArray, List.set_cons_zero, List.set_cons_succ]))
                    (refine wpAnyH_take (i := 13) (v := ?_) rfl (by kernel_rfl) (by kernel_rfl) (by kernel_rfl) (fun _ _ _ h => h) (Or.inl ⟨by rfl, ?_⟩) (by assumption) ?_; (case' refine_2 => (intro w hSw; go_simp; try with_reducible rfl)); (try simp only [Act.put, List.getElem_toArray, List.getElem_cons_zero, List.getElem_cons_succ, List.setIfInBounds_toArray, List.set_cons_zero, List.set_cons_succ]))
                    refine wpAnyH_done (by kernel_rfl) ?_ _
                    go_wp2
                    go_ret
                    exact ⟨rfl, HF.out⟩
                · have z8 : (x.f0 == 8) = false := beq_eq_false_iff_ne.mpr e8
                  have HV1 := HV.out
                  rw [if_neg e1] at HV1
                  rw [if_neg e2] at HV1
                  rw [if_neg e3] at HV1
                  rw [if_neg e4] at HV1
                  rw [if_neg e5] at HV1
                  rw [if_neg e7] at HV1
                  rw [if_neg e6] at HV1
                  rw [if_neg e8] at HV1
                  subst HV1
                  clear HV e1 e2 e3 e4 e5 e7 e6 e8
                  go_enter Try.func29, Try.ntmps29
                  go_wp2
                  go_ret
                  exact ⟨rfl, HB.out⟩
end Go.Proofs.Ytgdpabedlghiaaa.Scope
-- printed for this claim by a program (pall.sh)
namespace Go.Proofs.Ytgdpabedlghiaaa.PZ
open Go.RowKit Go.Proofs.YtgdpabedlghiaaaW.PrintWords Go.Proofs.YtgdpabedlghiaaaW.PrintLast Go.Proofs.YtgdpabedlghiaaaW.PrintMore
attribute [local go_sem] max2_int min2_int max_two min_two max_three min_three max_four min_four   -- for this text's walks alone
set_option linter.unusedVariables false
set_option linter.unusedSimpArgs false

/-! ### scope_named: function 109 -/
def scope_named.f (a0 : Int) : Option (Bool) := if a0 = 2 then (some true) else (if a0 = 3 then (some true) else (if a0 = 4 then (some true) else (some false)))
set_option maxHeartbeats 8000000 in
set_option maxRecDepth 100000 in
theorem scope_named.calls (a0 : Int) (r : Bool) (w : World) (h : scope_named.f a0 = some r) :
    Calls Try.prog 109 #[.int .i64 a0] w fun e w' => e = .returned (.bool r) ∧ Drawn0 w w' := by
  have H : (if a0 = 2 then (some true) else (if a0 = 3 then (some true) else (if a0 = 4 then (some true) else (some false)))) = some r := h
  clear h
  by_cases c2 : a0 = 2
  · rw [if_pos c2] at H
    have c2b0 : (a0 == 2) = true := beq_iff_eq.mpr c2
    have c2b1 : (a0 != 2) = false := bne_eq_false_iff_eq.mpr c2
    clear c2
    obtain rfl := Option.some.inj H
    go_enter Try.func109, Try.ntmps109
    go_wp2
    go_ret
    exact ⟨by first | rfl | (simp; done) | (simp [*]; done), by repeat (first | exact Drawn0.refl _ | apply Drawn0.step)⟩
  · rw [if_neg c2] at H
    have c2b0 : (a0 == 2) = false := beq_eq_false_iff_ne.mpr c2
    have c2b1 : (a0 != 2) = true := bne_iff_ne.mpr c2
    by_cases c3 : a0 = 3
    · rw [if_pos c3] at H
      have c3b0 : (a0 == 3) = true := beq_iff_eq.mpr c3
      have c3b1 : (a0 != 3) = false := bne_eq_false_iff_eq.mpr c3
      clear c3
      obtain rfl := Option.some.inj H
      go_enter Try.func109, Try.ntmps109
      go_wp2
      go_ret
      exact ⟨by first | rfl | (simp; done) | (simp [*]; done), by repeat (first | exact Drawn0.refl _ | apply Drawn0.step)⟩
    · rw [if_neg c3] at H
      have c3b0 : (a0 == 3) = false := beq_eq_false_iff_ne.mpr c3
      have c3b1 : (a0 != 3) = true := bne_iff_ne.mpr c3
      by_cases c4 : a0 = 4
      · rw [if_pos c4] at H
        have c4b0 : (a0 == 4) = true := beq_iff_eq.mpr c4
        have c4b1 : (a0 != 4) = false := bne_eq_false_iff_eq.mpr c4
        clear c4
        obtain rfl := Option.some.inj H
        go_enter Try.func109, Try.ntmps109
        go_wp2
        go_ret
        exact ⟨by first | rfl | (simp; done) | (simp [*]; done), by repeat (first | exact Drawn0.refl _ | apply Drawn0.step)⟩
      · rw [if_neg c4] at H
        have c4b0 : (a0 == 4) = false := beq_eq_false_iff_ne.mpr c4
        have c4b1 : (a0 != 4) = true := bne_iff_ne.mpr c4
        obtain rfl := Option.some.inj H
        go_enter Try.func109, Try.ntmps109
        go_wp2
        go_ret
        exact ⟨by first | rfl | (simp; done) | (simp [*]; done), by repeat (first | exact Drawn0.refl _ | apply Drawn0.step)⟩

end Go.Proofs.Ytgdpabedlghiaaa.PZ
/- inode.Name: which texts may be names. -/
namespace Go.Proofs.Ytgdpabedlghiaaa.Name
set_option linter.unusedSimpArgs false
open Go.RowKit Go.Lib Go.Proofs.Ytgdpabedlghiaaa.Base Go.Proofs.YtgdpabedlghiaaaW.PrintWords Go.Proofs.YtgdpabedlghiaaaW.PrintLast Go.Proofs.YtgdpabedlghiaaaW.PrintMore

/-- Which letters may stand in a name. -/
def letB (r : Nat) : Bool := (decide (97 ≤ r) && decide (r ≤ 122)) || (decide (48 ≤ r) && decide (r ≤ 57)) || decide (r = 46) || decide (r = 45) || decide (r = 95)
set_option maxHeartbeats 1000000 in
theorem letter_c (r : Nat) (w : World) : Calls Try.prog 65 #[.int .i32 (r : Int)] w fun e w' => e = .returned (.bool (letB r)) ∧ ∃ q, w' = w.drewN q := by
  go_enter Try.func65, Try.ntmps65
  go_wp2
  all_goals
    go_ret
    refine ⟨congrArg (fun b => Ending.returned (Value.bool b)) ?_, 0, rfl⟩
    rw [Bool.eq_iff_iff]
    simp only [letB, Bool.or_eq_true, Bool.and_eq_true, decide_eq_true_eq, beq_iff_eq]
    first | omega | (simp; omega)
theorem pred (w : World) : PredAt Try.prog 64 #[] encR (fun r => !letB r) w := fun W r _ => by
  unfold FnGives
  have hL := letter_c r
  obtain ⟨b, hb⟩ : ∃ b, letB r = b := ⟨_, rfl⟩
  dsimp only
  rw [hb] at hL ⊢
  clear hb
  go_enter Try.func64, Try.ntmps64
  go_wp2_with (go_at_call 65; refine (hL _).mono ?_; rintro e w' ⟨rfl, q, rfl⟩)
  go_ret
  exact ⟨rfl, _, rfl⟩

set_option maxHeartbeats 2000000 in
set_option maxRecDepth 1000000 in
theorem index_c (s : ByteArray) (w : World) :
    Calls Try.prog 108 #[.string s, .func (.func 64) #[] #[], .bool true] w fun e w' => e = .returned (.int .i64 (Lib.idxFunc (fun r => !letB r) true s)) ∧ Below w.heap.size w w' := by
  have hp := pred w
  obtain ⟨p, hpp⟩ : ∃ p : Nat → Bool, (fun r => !letB r) = p := ⟨_, rfl⟩
  rw [hpp] at hp ⊢
  clear hpp
  go_enter Try.func108, Try.ntmps108
  go_wp2
  go_loopg [] s.size (fun gf wx => ∃ pos : Nat, wx.heap[w.heap.size]? = some (.stringIter s pos) ∧ Below w.heap.size w wx ∧ Lib.idxFuncFrom p true s gf pos = Lib.idxFunc p true s ∧ s.size ≤ pos + gf)
  case atStart => exact ⟨0, World.iter_heap w s 0, (Below.refl _ w).alloc (Nat.le_refl _) _, rfl, by omega⟩
  case round =>
    obtain ⟨pos, hit, hbw, hleft, hfu⟩ := hrel
    by_cases hps : pos < s.size
    · obtain ⟨g', rfl⟩ : ∃ g', gk = g' + 1 := ⟨gk - 1, by omega⟩
      have hnx : ∀ ty, (Instr.next (.pointer (some ⟨w.heap.size, 0, none⟩)) true ty).run Try.prog wr = _ := fun ty => Lib.run_next_any_at wr w.heap.size s pos ty hit hps
      have hwd := Lib.width_pos s pos
      obtain ⟨R, hR⟩ : ∃ R, (Utf8.decode s pos).1 = R := ⟨_, rfl⟩
      obtain ⟨K, hK⟩ : ∃ K, (Utf8.decode s pos).2 = K := ⟨_, rfl⟩
      simp only [Lib.idxFuncFrom, hps, if_true, hR, hK] at hleft
      rw [hR, hK] at hnx
      rw [hK] at hwd
      have hit2 := Lib.iterAt_heap wr w.heap.size s pos (pos + K) hit
      have hbw2 := Lib.below_iterAt hbw (k := w.heap.size) (Nat.le_refl _) s (pos + K)
      obtain ⟨W, hWd⟩ : ∃ W, wr.iterAt w.heap.size s (pos + K) = W := ⟨_, rfl⟩
      rw [hWd] at hnx hit2 hbw2
      have cS : Calls Try.prog 64 (#[.int .i32 (R : Int)] ++ #[]) W _ := hp W R hbw2
      simp only [List.append_toArray, List.cons_append, List.nil_append, Array.append_empty] at cS
      clear hp
      cases hsp : p R <;> rw [hsp] at cS <;> simp only [hsp, if_true, Bool.false_eq_true, Bool.true_eq_false, if_false] at hleft
      · go_wp2_with (go_at_call 64; refine cS.mono ?_; rintro e W' ⟨rfl, q, rfl⟩)
        go_roundg g'
        case measure => omega
        case rel => exact ⟨pos + K, hit2, below_drewN' hbw2 q, hleft, by omega⟩
      · go_wp2_with (go_at_call 64; refine cS.mono ?_; rintro e W' ⟨rfl, q, rfl⟩)
        go_ret
        exact ⟨by rw [← hleft] <;> rfl, below_drewN' hbw2 q⟩
    · have hnx : ∀ ty, (Instr.next (.pointer (some ⟨w.heap.size, 0, none⟩)) true ty).run Try.prog wr = _ := fun ty => Lib.run_next_end_at wr w.heap.size s pos ty hit hps
      rw [Lib.idxFuncFrom_end p true s gk pos hps] at hleft
      go_wp2
      go_ret
      exact ⟨by rw [← hleft] <;> rfl, hbw⟩
set_option maxHeartbeats 1000000 in
theorem Index_c (s : ByteArray) (w : World) :
    Calls Try.prog 63 #[.string s, .func (.func 64) #[] #[]] w fun e w' => e = .returned (.int .i64 (Lib.idxFunc (fun r => !letB r) true s)) ∧ Below w.heap.size w w' := by
  have cI := index_c s w
  go_enter Try.func63, Try.ntmps63
  go_wp2_with (go_at_call 108; refine cI.mono ?_; rintro e w' ⟨rfl, hb⟩)
  go_ret
  exact ⟨rfl, hb⟩
def nameB (s : ByteArray) : Bool := decide (Lib.idxFunc (fun r => !letB r) true s < 0) && (decide (1 ≤ s.size) && decide (s.size ≤ 16))
set_option maxHeartbeats 1000000 in
theorem name_c (s : ByteArray) (w : World) :
    Calls Try.prog 21 #[.string s] w fun e w' => e = .returned (.bool (nameB s)) ∧ Below w.heap.size w w' := by
  have cI := Index_c s w
  unfold nameB
  obtain ⟨i, hi⟩ : ∃ i, Lib.idxFunc (fun r => !letB r) true s = i := ⟨_, rfl⟩
  rw [hi] at cI ⊢
  clear hi
  obtain ⟨b1, e1⟩ : ∃ b, decide (i < 0) = b := ⟨_, rfl⟩
  obtain ⟨b2, e2⟩ : ∃ b, decide (1 ≤ s.size) = b := ⟨_, rfl⟩
  obtain ⟨b3, e3⟩ : ∃ b, decide (s.size ≤ 16) = b := ⟨_, rfl⟩
  have z2 : decide ((1 : Int) ≤ (s.size : Int)) = b2 := by rw [← e2]; congr 1; exact propext (by omega)
  have z3 : decide ((s.size : Int) ≤ 16) = b3 := by rw [← e3]; congr 1; exact propext (by omega)
  rw [e1, e2, e3]
  cases b1 <;> cases b2 <;> cases b3
  all_goals
    go_enter Try.func21, Try.ntmps21
    go_wp2_with (go_at_call 63; refine cI.mono ?_; rintro e w' ⟨rfl, hb⟩)
    go_ret
    exact ⟨rfl, hb⟩
end Go.Proofs.Ytgdpabedlghiaaa.Name
/- inode.Name, in the printed functions' form. -/
namespace Go.Proofs.Ytgdpabedlghiaaa.PZ
open Go.RowKit
def inode_Name.f (a0 : ByteArray) : Option (Bool) := some (Name.nameB a0)
theorem inode_Name.calls (a0 : ByteArray) (r : Bool) (w : World) (h : inode_Name.f a0 = some r) :
    Calls Try.prog 21 #[.string a0] w fun e w' => e = .returned (.bool r) ∧ Below w.heap.size w w' := by
  obtain rfl : Name.nameB a0 = r := Option.some.inj h
  exact Name.name_c a0 w
end Go.Proofs.Ytgdpabedlghiaaa.PZ
-- printed for this claim by a program (pall.sh)
namespace Go.Proofs.Ytgdpabedlghiaaa.PZ
open Go.RowKit Go.Proofs.YtgdpabedlghiaaaW.PrintWords Go.Proofs.YtgdpabedlghiaaaW.PrintLast Go.Proofs.YtgdpabedlghiaaaW.PrintMore
attribute [local go_sem] max2_int min2_int max_two min_two max_three min_three max_four min_four   -- for this text's walks alone
set_option linter.unusedVariables false
set_option linter.unusedSimpArgs false

/-! ### scope_fields: function 113 -/
mutual
def scope_fields.j0 : Nat → Bool → Int → ByteArray → Int → Int → List (S40) → Option (Bool)
  | 0, _, _, _, _, _, _ => none
  | k + 1, x3, x197000, x197001, x197002, x197003, x197004 => if x3 = true then (some false) else ((scope_named.f x197000).bind fun t197 => (if t197 = true then ((inode_Name.f x197001).bind fun t198 => (scope_fields.j1 k (!t198) x197000 x197001 x197002 x197003 x197004)) else (scope_fields.j1 k false x197000 x197001 x197002 x197003 x197004)))
def scope_fields.j1 : Nat → Bool → Int → ByteArray → Int → Int → List (S40) → Option (Bool)
  | 0, _, _, _, _, _, _ => none
  | k + 1, x12, x197000, x197001, x197002, x197003, x197004 => if x12 = true then (scope_fields.j2 k x12 x197000 x197001 x197002 x197003 x197004) else ((scope_named.f x197000).bind fun t199 => (if t199 = true then (scope_fields.j2 k false x197000 x197001 x197002 x197003 x197004) else (scope_fields.j2 k (x197001.toList != ([] : List UInt8)) x197000 x197001 x197002 x197003 x197004)))
def scope_fields.j2 : Nat → Bool → Int → ByteArray → Int → Int → List (S40) → Option (Bool)
  | 0, _, _, _, _, _, _ => none
  | k + 1, x12, x197000, x197001, x197002, x197003, x197004 => if x12 = true then (some false) else (if x197000 = 5 then (if x197002 ≥ 0 then (if x197002 ≤ x197003 then (some (decide (x197003 ≤ 1099511627776))) else (some false)) else (some false)) else (if x197002 = 0 then (some (x197003 == 0)) else (some false)))
end
def scope_fields.f (k : Nat) (a0_0 : Int) (a0_1 : ByteArray) (a0_2 : Int) (a0_3 : Int) (l0_4 : List (S40)) : Option (Bool) := if a0_0 < 1 then (scope_fields.j0 k true a0_0 a0_1 a0_2 a0_3 l0_4) else (scope_fields.j0 k (decide (a0_0 > 8)) a0_0 a0_1 a0_2 a0_3 l0_4)
theorem scope_fields.mono_l : ∀ k, (∀ y0 y1 y2 y3 y4 y5, LeO (scope_fields.j0 k y0 y1 y2 y3 y4 y5) (scope_fields.j0 (k + 1) y0 y1 y2 y3 y4 y5)) ∧ (∀ y0 y1 y2 y3 y4 y5, LeO (scope_fields.j1 k y0 y1 y2 y3 y4 y5) (scope_fields.j1 (k + 1) y0 y1 y2 y3 y4 y5)) ∧ (∀ y0 y1 y2 y3 y4 y5, LeO (scope_fields.j2 k y0 y1 y2 y3 y4 y5) (scope_fields.j2 (k + 1) y0 y1 y2 y3 y4 y5))
  | 0 => ⟨fun _ _ _ _ _ _ r h => by simp [scope_fields.j0] at h, fun _ _ _ _ _ _ r h => by simp [scope_fields.j1] at h, fun _ _ _ _ _ _ r h => by simp [scope_fields.j2] at h⟩
  | k + 1 => by
    obtain ⟨ih0, ih1, ih2⟩ := scope_fields.mono_l k
    refine ⟨?_, ?_, ?_⟩
    · intro y0 y1 y2 y3 y4 y5
      unfold scope_fields.j0
      repeat' first
      | (with_reducible exact ih0 _ _ _ _ _ _)
      | (with_reducible exact ih1 _ _ _ _ _ _)
      | (with_reducible exact ih2 _ _ _ _ _ _)
      | (with_reducible exact LeO.refl _)
      | (with_reducible exact LeO.none _)
      | (with_reducible refine LeO.ite ?_ ?_)
      | (with_reducible refine LeO.bind ?_ (fun _ => ?_))
      | exact ih0 _ _ _ _ _ _
      | exact ih1 _ _ _ _ _ _
      | exact ih2 _ _ _ _ _ _
      | exact LeO.none _
      | refine LeO.ite ?_ ?_
      | refine LeO.bind ?_ (fun _ => ?_)
    · intro y0 y1 y2 y3 y4 y5
      unfold scope_fields.j1
      repeat' first
      | (with_reducible exact ih0 _ _ _ _ _ _)
      | (with_reducible exact ih1 _ _ _ _ _ _)
      | (with_reducible exact ih2 _ _ _ _ _ _)
      | (with_reducible exact LeO.refl _)
      | (with_reducible exact LeO.none _)
      | (with_reducible refine LeO.ite ?_ ?_)
      | (with_reducible refine LeO.bind ?_ (fun _ => ?_))
      | exact ih0 _ _ _ _ _ _
      | exact ih1 _ _ _ _ _ _
      | exact ih2 _ _ _ _ _ _
      | exact LeO.none _
      | refine LeO.ite ?_ ?_
      | refine LeO.bind ?_ (fun _ => ?_)
    · intro y0 y1 y2 y3 y4 y5
      unfold scope_fields.j2
      repeat' first
      | (with_reducible exact ih0 _ _ _ _ _ _)
      | (with_reducible exact ih1 _ _ _ _ _ _)
      | (with_reducible exact ih2 _ _ _ _ _ _)
      | (with_reducible exact LeO.refl _)
      | (with_reducible exact LeO.none _)
      | (with_reducible refine LeO.ite ?_ ?_)
      | (with_reducible refine LeO.bind ?_ (fun _ => ?_))
      | exact ih0 _ _ _ _ _ _
      | exact ih1 _ _ _ _ _ _
      | exact ih2 _ _ _ _ _ _
      | exact LeO.none _
      | refine LeO.ite ?_ ?_
      | refine LeO.bind ?_ (fun _ => ?_)
theorem scope_fields.mono : ∀ a0 a1 a2 a3 a4 k, LeO (scope_fields.f k a0 a1 a2 a3 a4) (scope_fields.f (k + 1) a0 a1 a2 a3 a4) := by
  intro a0 a1 a2 a3 a4 k
  obtain ⟨ih0, ih1, ih2⟩ := scope_fields.mono_l k
  unfold scope_fields.f
  repeat' first
      | (with_reducible exact ih0 _ _ _ _ _ _)
      | (with_reducible exact ih1 _ _ _ _ _ _)
      | (with_reducible exact ih2 _ _ _ _ _ _)
      | (with_reducible exact LeO.refl _)
      | (with_reducible exact LeO.none _)
      | (with_reducible refine LeO.ite ?_ ?_)
      | (with_reducible refine LeO.bind ?_ (fun _ => ?_))
      | exact ih0 _ _ _ _ _ _
      | exact ih1 _ _ _ _ _ _
      | exact ih2 _ _ _ _ _ _
      | exact LeO.none _
      | refine LeO.ite ?_ ?_
      | refine LeO.bind ?_ (fun _ => ?_)
set_option maxHeartbeats 8000000 in
set_option maxRecDepth 100000 in
theorem scope_fields.calls (k : Nat) (a0_0 : Int) (a0_1 : ByteArray) (a0_2 : Int) (a0_3 : Int) (A0_4 : Option Addr) (c0_4 : Nat) (l0_4 : List (S40)) (r : Bool) (w : World) (hr0_4 : Kd.C k40 w A0_4 l0_4.length l0_4) (hc0_4 : l0_4.length ≤ c0_4) (h : scope_fields.f k a0_0 a0_1 a0_2 a0_3 l0_4 = some r) :
    Calls Try.prog 113 #[.agg #[.int .i64 a0_0, .string a0_1, .int .i64 a0_2, .int .i64 a0_3, .slice A0_4 l0_4.length c0_4]] w fun e w' => e = .returned (.bool r) ∧ Below w.heap.size w w' := by
  have hu40 := Try.underlying40
  have HR0_4 := Aside0.mk hr0_4
  have HC0_4 := Aside0.mk hc0_4
  clear hr0_4 hc0_4
  have HB := Aside0.mk (Below.refl w.heap.size w)
  have H : (if a0_0 < 1 then (scope_fields.j0 k true a0_0 a0_1 a0_2 a0_3 l0_4) else (scope_fields.j0 k (decide (a0_0 > 8)) a0_0 a0_1 a0_2 a0_3 l0_4)) = some r := h
  clear h
  have HC2 := Aside0.mk H
  clear H
  go_enter Try.func113, Try.ntmps113
  go_upto_region 1 with (first | ((with_reducible refine gate_dst (N := 1) rfl ?_); refine box_event ?hg (N := 1) ?hd (cs := #[.int .i64 a0_0, .string a0_1, .int .i64 a0_2, .int .i64 a0_3, .slice A0_4 l0_4.length c0_4]) (t := 40) ?hr ?_; (case hd => rfl); (case hg => rfl); (case hr => first | (go_simp; done) | (go_simp; rfl)); intro gb196 hg w3 hbox hb; have n0_ := Aside0.mk (below_step (by repeat (first | (with_reducible first | exact HB.out | apply below_alloc | apply pw_below_drewN | apply below_drew1) | exact HB.out)) hb); have n1_ := Aside0.mk (hbox); have n2_ := Aside0.mk ((by rw [hg]; exact (below_size (by repeat (first | (with_reducible first | exact HB.out | apply below_alloc | apply pw_below_drewN | apply below_drew1) | exact HB.out))) : w.heap.size ≤ gb196)); have n3_ := Aside0.mk ((by rw [hg]; exact (below_size (by repeat (first | (with_reducible first | exact HB.out | apply below_alloc | apply pw_below_drewN | apply below_drew1) | exact HB.out))) : w.heap.size ≤ gb196)); clear HB; have HB := n0_; have BK196 := n1_; have GW196 := n2_; have GE196 := n3_; clear n0_ n1_ n2_ n3_; clear hb hbox hg))
  (try simp only [Act.put, List.setIfInBounds_toArray, List.set_cons_zero, List.set_cons_succ])
  go_cut [3] (fun v3 wc => ∃ (kq : Nat) (x3_1 : Bool), v3 = .bool x3_1 ∧ Aside0 (scope_fields.j0 kq x3_1 a0_0 a0_1 a0_2 a0_3 l0_4 = some r) ∧ Aside0 (kq ≤ k) ∧ Aside0 (wc.heap[gb196]? = some (.cells #[.int .i64 a0_0, .string a0_1, .int .i64 a0_2, .int .i64 a0_3, (.slice A0_4 l0_4.length c0_4)] 40 (0, 0))) ∧ Aside0 (Below w.heap.size w wc))
  case first =>
    have H := HC2.out
    clear HC2
    by_cases c4 : a0_0 < 1
    · rw [if_pos c4] at H
      have c4b0 : decide (a0_0 < 1) = true := decide_eq_true c4
      clear c4
      (first | rw [c4b0] | (simp only [i64_w, i32_w]; rw [c4b0]) | skip)
      have H' := Aside0.mk H
      clear H
      have hcz5_0 : w3.cell? ⟨gb196, 0, none⟩ = some (.int .i64 a0_0) := (blk_cell BK196.out 0).trans rfl
      have hcz5_1 : w3.cell? ⟨gb196, 1, none⟩ = some (.string a0_1) := (blk_cell BK196.out 1).trans rfl
      have hcz5_2 : w3.cell? ⟨gb196, 2, none⟩ = some (.int .i64 a0_2) := (blk_cell BK196.out 2).trans rfl
      have hcz5_3 : w3.cell? ⟨gb196, 3, none⟩ = some (.int .i64 a0_3) := (blk_cell BK196.out 3).trans rfl
      have hcz5_4 : w3.cell? ⟨gb196, 4, none⟩ = some (.slice A0_4 l0_4.length c0_4) := (blk_cell BK196.out 4).trans rfl
      have hfz5_0 := blk_frozen BK196.out 0
      have hfz5_1 := blk_frozen BK196.out 1
      have hfz5_2 := blk_frozen BK196.out 2
      have hfz5_3 := blk_frozen BK196.out 3
      have hfz5_4 := blk_frozen BK196.out 4
      go_wp2
      go_meet
      case rel => exact ⟨_, (true), (by first | rfl | (simp; done) | (simp [*]; done) | (simp [*]; exact (show ∀ l_ : List UInt8, l_.isEmpty = !(l_ != []) from fun l_ => by cases l_ <;> rfl) _)), H', ⟨by first | omega | exact Nat.le_refl _⟩, ⟨by (with_reducible repeat (first | refine blk_drewN ?_ _ | refine blk_drew ?_ | refine blk_alloc ?_ _)); exact BK196.out⟩, ⟨by repeat (first | (with_reducible first | exact HB.out | apply below_alloc | apply pw_below_drewN | apply below_drew1 | refine below_set ?_ GE196.out) | exact HB.out)⟩⟩
    · rw [if_neg c4] at H
      have c4b0 : decide (a0_0 < 1) = false := decide_eq_false c4
      clear c4
      (first | rw [c4b0] | (simp only [i64_w, i32_w]; rw [c4b0]) | skip)
      have H' := Aside0.mk H
      clear H
      have hcz6_0 : w3.cell? ⟨gb196, 0, none⟩ = some (.int .i64 a0_0) := (blk_cell BK196.out 0).trans rfl
      have hcz6_1 : w3.cell? ⟨gb196, 1, none⟩ = some (.string a0_1) := (blk_cell BK196.out 1).trans rfl
      have hcz6_2 : w3.cell? ⟨gb196, 2, none⟩ = some (.int .i64 a0_2) := (blk_cell BK196.out 2).trans rfl
      have hcz6_3 : w3.cell? ⟨gb196, 3, none⟩ = some (.int .i64 a0_3) := (blk_cell BK196.out 3).trans rfl
      have hcz6_4 : w3.cell? ⟨gb196, 4, none⟩ = some (.slice A0_4 l0_4.length c0_4) := (blk_cell BK196.out 4).trans rfl
      have hfz6_0 := blk_frozen BK196.out 0
      have hfz6_1 := blk_frozen BK196.out 1
      have hfz6_2 := blk_frozen BK196.out 2
      have hfz6_3 := blk_frozen BK196.out 3
      have hfz6_4 := blk_frozen BK196.out 4
      go_wp2
      go_meet
      case rel => exact ⟨_, (decide (a0_0 > 8)), (by first | rfl | (simp; done) | (simp [*]; done) | (simp [*]; exact (show ∀ l_ : List UInt8, l_.isEmpty = !(l_ != []) from fun l_ => by cases l_ <;> rfl) _)), H', ⟨by first | omega | exact Nat.le_refl _⟩, ⟨by (with_reducible repeat (first | refine blk_drewN ?_ _ | refine blk_drew ?_ | refine blk_alloc ?_ _)); exact BK196.out⟩, ⟨by repeat (first | (with_reducible first | exact HB.out | apply below_alloc | apply pw_below_drewN | apply below_drew1 | refine below_set ?_ GE196.out) | exact HB.out)⟩⟩
  case rest =>
    clear HC2
    try clear c1
    try clear p2
    try clear c4
    try clear c4b0
    try clear hcz5_0
    try clear hcz5_1
    try clear hcz5_2
    try clear hcz5_3
    try clear hcz5_4
    try clear hcz6_0
    try clear hcz6_1
    try clear hcz6_2
    try clear hcz6_3
    try clear hcz6_4
    try clear hfz5_0
    try clear hfz5_1
    try clear hfz5_2
    try clear hfz5_3
    try clear hfz5_4
    try clear hfz6_0
    try clear hfz6_1
    try clear hfz6_2
    try clear hfz6_3
    try clear hfz6_4
    obtain ⟨kq, x3_1, rfl, HA, HJ1, BK196, HB⟩ := hcut
    cases kq with
    | zero => exact absurd HA.out (by simp [scope_fields.j0])
    | succ kj1 =>
      have H := HA.out
      clear HA
      simp only [scope_fields.j0] at H
      by_cases c7 : x3_1 = true
      · subst c7
        have H1 : (some false) = some r := by rw [if_pos rfl] at H; exact H
        clear H
        have H := H1
        clear H1
        obtain rfl := Option.some.inj H
        go_wp2
        go_ret
        exact ⟨by first | rfl | (simp [errW_none, errW_some] <;> rfl) | (simp [*, errW_none, errW_some] <;> rfl), by repeat (first | (with_reducible first | exact HB.out | apply below_alloc | apply pw_below_drewN | apply below_drew1 | refine below_set ?_ GE196.out) | exact HB.out)⟩
      · replace c7 := Bool.eq_false_iff.mpr c7
        subst c7
        have H1 : ((scope_named.f a0_0).bind fun t197 => (if t197 = true then ((inode_Name.f a0_1).bind fun t198 => (scope_fields.j1 kj1 (!t198) a0_0 a0_1 a0_2 a0_3 l0_4)) else (scope_fields.j1 kj1 false a0_0 a0_1 a0_2 a0_3 l0_4))) = some r := by rw [if_neg (show ¬ (false = true) by decide)] at H; exact H
        clear H
        have H := H1
        clear H1
        have HC8 := Aside0.mk H
        clear H
        go_upto_region 3 with (fail)
        go_cut [12] (fun v12 wc => ∃ (kq : Nat) (x12_7 : Bool), v12 = .bool x12_7 ∧ Aside0 (scope_fields.j1 kq x12_7 a0_0 a0_1 a0_2 a0_3 l0_4 = some r) ∧ Aside0 (kq ≤ kj1) ∧ Aside0 (wc.heap[gb196]? = some (.cells #[.int .i64 a0_0, .string a0_1, .int .i64 a0_2, .int .i64 a0_3, (.slice A0_4 l0_4.length c0_4)] 40 (0, 0))) ∧ Aside0 (Below w.heap.size w wc))
        case first =>
          have H := HC8.out
          clear HC8
          replace H := Option.bind_eq_some_iff.mp H
          obtain ⟨t197, A90, H⟩ := H
          replace H : (if t197 = true then ((inode_Name.f a0_1).bind fun t198 => (scope_fields.j1 kj1 (!t198) a0_0 a0_1 a0_2 a0_3 l0_4)) else (scope_fields.j1 kj1 false a0_0 a0_1 a0_2 a0_3 l0_4)) = some r := H
          have A9 := Aside0.mk A90
          clear A90
          by_cases c10 : t197 = true
          · subst c10
            have H1 : ((inode_Name.f a0_1).bind fun t198 => (scope_fields.j1 kj1 (!t198) a0_0 a0_1 a0_2 a0_3 l0_4)) = some r := by rw [if_pos rfl] at H; exact H
            clear H
            have H := H1
            clear H1
            replace H := Option.bind_eq_some_iff.mp H
            obtain ⟨t198, A110, H⟩ := H
            replace H : (scope_fields.j1 kj1 (!t198) a0_0 a0_1 a0_2 a0_3 l0_4) = some r := H
            have A11 := Aside0.mk A110
            clear A110
            have H' := Aside0.mk H
            clear H
            have hcz12_0 : wc.cell? ⟨gb196, 0, none⟩ = some (.int .i64 a0_0) := (blk_cell BK196.out 0).trans rfl
            have hcz12_1 : wc.cell? ⟨gb196, 1, none⟩ = some (.string a0_1) := (blk_cell BK196.out 1).trans rfl
            have hcz12_2 : wc.cell? ⟨gb196, 2, none⟩ = some (.int .i64 a0_2) := (blk_cell BK196.out 2).trans rfl
            have hcz12_3 : wc.cell? ⟨gb196, 3, none⟩ = some (.int .i64 a0_3) := (blk_cell BK196.out 3).trans rfl
            have hcz12_4 : wc.cell? ⟨gb196, 4, none⟩ = some (.slice A0_4 l0_4.length c0_4) := (blk_cell BK196.out 4).trans rfl
            have hfz12_0 := blk_frozen BK196.out 0
            have hfz12_1 := blk_frozen BK196.out 1
            have hfz12_2 := blk_frozen BK196.out 2
            have hfz12_3 := blk_frozen BK196.out 3
            have hfz12_4 := blk_frozen BK196.out 4
            go_wp2_with (first | ((with_reducible refine gate_callee (f := 109) rfl ?_); refine goesL_ (some 15) rfl rfl Try.func109 (by kernel_rfl) rfl #[.int .i64 a0_0] rfl (by (try simp only [List.map_toArray, List.map_cons, List.map_nil]); first | done | rfl | (simp only [List.length_drop, List.length_take]; rfl)) ?_; (with_reducible refine (scope_named.calls a0_0 true _ A9.out).mono ?_); rintro e w' ⟨rfl, ⟨nd, rfl⟩⟩; refine ⟨_, rfl, ?_⟩) | (go_at_call 21; (with_reducible refine (inode_Name.calls a0_1 t198 _ A11.out).mono ?_); rintro e w13 ⟨rfl, hb⟩; have n0_ := Aside0.mk (blk_below (g := gb196) (o := .cells #[.int .i64 a0_0, .string a0_1, .int .i64 a0_2, .int .i64 a0_3, .slice A0_4 l0_4.length c0_4] 40 (0, 0)) (by (with_reducible repeat (first | refine blk_drewN ?_ _ | refine blk_drew ?_ | refine blk_alloc ?_ _)); exact BK196.out) hb); have n1_ := Aside0.mk (below_step (by repeat (first | (with_reducible first | exact HB.out | apply below_alloc | apply pw_below_drewN | apply below_drew1 | refine below_set ?_ GE196.out) | exact HB.out)) hb); clear BK196; clear HB; have BK196 := n0_; have HB := n1_; clear n0_ n1_; (try clear hb); (try clear hb2); (try clear hk); (try clear hi)))
            go_meet
            case rel => exact ⟨_, (!t198), (by first | rfl | (simp; done) | (simp [*]; done) | (simp [*]; exact (show ∀ l_ : List UInt8, l_.isEmpty = !(l_ != []) from fun l_ => by cases l_ <;> rfl) _)), H', ⟨by have := HJ1.out; first | omega | exact Nat.le_refl _⟩, ⟨by (with_reducible repeat (first | refine blk_drewN ?_ _ | refine blk_drew ?_ | refine blk_alloc ?_ _)); exact BK196.out⟩, ⟨by repeat (first | (with_reducible first | exact HB.out | apply below_alloc | apply pw_below_drewN | apply below_drew1 | refine below_set ?_ GE196.out) | exact HB.out)⟩⟩
          · replace c10 := Bool.eq_false_iff.mpr c10
            subst c10
            have H1 : (scope_fields.j1 kj1 false a0_0 a0_1 a0_2 a0_3 l0_4) = some r := by rw [if_neg (show ¬ (false = true) by decide)] at H; exact H
            clear H
            have H := H1
            clear H1
            have H' := Aside0.mk H
            clear H
            have hcz14_0 : wc.cell? ⟨gb196, 0, none⟩ = some (.int .i64 a0_0) := (blk_cell BK196.out 0).trans rfl
            have hcz14_1 : wc.cell? ⟨gb196, 1, none⟩ = some (.string a0_1) := (blk_cell BK196.out 1).trans rfl
            have hcz14_2 : wc.cell? ⟨gb196, 2, none⟩ = some (.int .i64 a0_2) := (blk_cell BK196.out 2).trans rfl
            have hcz14_3 : wc.cell? ⟨gb196, 3, none⟩ = some (.int .i64 a0_3) := (blk_cell BK196.out 3).trans rfl
            have hcz14_4 : wc.cell? ⟨gb196, 4, none⟩ = some (.slice A0_4 l0_4.length c0_4) := (blk_cell BK196.out 4).trans rfl
            have hfz14_0 := blk_frozen BK196.out 0
            have hfz14_1 := blk_frozen BK196.out 1
            have hfz14_2 := blk_frozen BK196.out 2
            have hfz14_3 := blk_frozen BK196.out 3
            have hfz14_4 := blk_frozen BK196.out 4
            go_wp2_with (first | ((with_reducible refine gate_callee (f := 109) rfl ?_); refine goesL_ (some 15) rfl rfl Try.func109 (by kernel_rfl) rfl #[.int .i64 a0_0] rfl (by (try simp only [List.map_toArray, List.map_cons, List.map_nil]); first | done | rfl | (simp only [List.length_drop, List.length_take]; rfl)) ?_; (with_reducible refine (scope_named.calls a0_0 false _ A9.out).mono ?_); rintro e w' ⟨rfl, ⟨nd, rfl⟩⟩; refine ⟨_, rfl, ?_⟩))
            go_meet
            case rel => exact ⟨_, (false), (by first | rfl | (simp; done) | (simp [*]; done) | (simp [*]; exact (show ∀ l_ : List UInt8, l_.isEmpty = !(l_ != []) from fun l_ => by cases l_ <;> rfl) _)), H', ⟨by have := HJ1.out; first | omega | exact Nat.le_refl _⟩, ⟨by (with_reducible repeat (first | refine blk_drewN ?_ _ | refine blk_drew ?_ | refine blk_alloc ?_ _)); exact BK196.out⟩, ⟨by repeat (first | (with_reducible first | exact HB.out | apply below_alloc | apply pw_below_drewN | apply below_drew1 | refine below_set ?_ GE196.out) | exact HB.out)⟩⟩
        case rest =>
          clear HC8
          try clear c1
          try clear p2
          try clear c4
          try clear c4b0
          try clear c7
          try clear c10
          try clear c11
          try clear hcz12_0
          try clear hcz12_1
          try clear hcz12_2
          try clear hcz12_3
          try clear hcz12_4
          try clear hcz14_0
          try clear hcz14_1
          try clear hcz14_2
          try clear hcz14_3
          try clear hcz14_4
          try clear hcz5_0
          try clear hcz5_1
          try clear hcz5_2
          try clear hcz5_3
          try clear hcz5_4
          try clear hcz6_0
          try clear hcz6_1
          try clear hcz6_2
          try clear hcz6_3
          try clear hcz6_4
          try clear hfz12_0
          try clear hfz12_1
          try clear hfz12_2
          try clear hfz12_3
          try clear hfz12_4
          try clear hfz14_0
          try clear hfz14_1
          try clear hfz14_2
          try clear hfz14_3
          try clear hfz14_4
          try clear hfz5_0
          try clear hfz5_1
          try clear hfz5_2
          try clear hfz5_3
          try clear hfz5_4
          try clear hfz6_0
          try clear hfz6_1
          try clear hfz6_2
          try clear hfz6_3
          try clear hfz6_4
          try clear p2
          obtain ⟨kq, x12_7, rfl, HA, HJ7, BK196, HB⟩ := hcut
          cases kq with
          | zero => exact absurd HA.out (by simp [scope_fields.j1])
          | succ kj7 =>
            have H := HA.out
            clear HA
            simp only [scope_fields.j1] at H
            have HC15 := Aside0.mk H
            clear H
            go_upto_if 12 with (fail)
            go_cut [12] (fun v12 wc => ∃ (kq : Nat) (x12_14 : Bool), v12 = .bool x12_14 ∧ Aside0 (scope_fields.j2 kq x12_14 a0_0 a0_1 a0_2 a0_3 l0_4 = some r) ∧ Aside0 (kq ≤ kj7) ∧ Aside0 (wc.heap[gb196]? = some (.cells #[.int .i64 a0_0, .string a0_1, .int .i64 a0_2, .int .i64 a0_3, (.slice A0_4 l0_4.length c0_4)] 40 (0, 0))) ∧ Aside0 (Below w.heap.size w wc))
            case first =>
              have H := HC15.out
              clear HC15
              by_cases c16 : x12_7 = true
              · subst c16
                have H1 : (scope_fields.j2 kj7 true a0_0 a0_1 a0_2 a0_3 l0_4) = some r := by rw [if_pos rfl] at H; exact H
                clear H
                have H := H1
                clear H1
                have H' := Aside0.mk H
                clear H
                go_wp2
                go_meet
                case rel => exact ⟨_, (true), (by first | rfl | (simp; done) | (simp [*]; done) | (simp [*]; exact (show ∀ l_ : List UInt8, l_.isEmpty = !(l_ != []) from fun l_ => by cases l_ <;> rfl) _)), H', ⟨by have := HJ1.out; have := HJ7.out; first | omega | exact Nat.le_refl _⟩, ⟨by (with_reducible repeat (first | refine blk_drewN ?_ _ | refine blk_drew ?_ | refine blk_alloc ?_ _)); exact BK196.out⟩, ⟨by repeat (first | (with_reducible first | exact HB.out | apply below_alloc | apply pw_below_drewN | apply below_drew1 | refine below_set ?_ GE196.out) | exact HB.out)⟩⟩
              · replace c16 := Bool.eq_false_iff.mpr c16
                subst c16
                have H1 : ((scope_named.f a0_0).bind fun t199 => (if t199 = true then (scope_fields.j2 kj7 false a0_0 a0_1 a0_2 a0_3 l0_4) else (scope_fields.j2 kj7 (a0_1.toList != ([] : List UInt8)) a0_0 a0_1 a0_2 a0_3 l0_4))) = some r := by rw [if_neg (show ¬ (false = true) by decide)] at H; exact H
                clear H
                have H := H1
                clear H1
                replace H := Option.bind_eq_some_iff.mp H
                obtain ⟨t199, A170, H⟩ := H
                replace H : (if t199 = true then (scope_fields.j2 kj7 false a0_0 a0_1 a0_2 a0_3 l0_4) else (scope_fields.j2 kj7 (a0_1.toList != ([] : List UInt8)) a0_0 a0_1 a0_2 a0_3 l0_4)) = some r := H
                have A17 := Aside0.mk A170
                clear A170
                by_cases c18 : t199 = true
                · subst c18
                  have H1 : (scope_fields.j2 kj7 false a0_0 a0_1 a0_2 a0_3 l0_4) = some r := by rw [if_pos rfl] at H; exact H
                  clear H
                  have H := H1
                  clear H1
                  have H' := Aside0.mk H
                  clear H
                  have hcz19_0 : wc.cell? ⟨gb196, 0, none⟩ = some (.int .i64 a0_0) := (blk_cell BK196.out 0).trans rfl
                  have hcz19_1 : wc.cell? ⟨gb196, 1, none⟩ = some (.string a0_1) := (blk_cell BK196.out 1).trans rfl
                  have hcz19_2 : wc.cell? ⟨gb196, 2, none⟩ = some (.int .i64 a0_2) := (blk_cell BK196.out 2).trans rfl
                  have hcz19_3 : wc.cell? ⟨gb196, 3, none⟩ = some (.int .i64 a0_3) := (blk_cell BK196.out 3).trans rfl
                  have hcz19_4 : wc.cell? ⟨gb196, 4, none⟩ = some (.slice A0_4 l0_4.length c0_4) := (blk_cell BK196.out 4).trans rfl
                  have hfz19_0 := blk_frozen BK196.out 0
                  have hfz19_1 := blk_frozen BK196.out 1
                  have hfz19_2 := blk_frozen BK196.out 2
                  have hfz19_3 := blk_frozen BK196.out 3
                  have hfz19_4 := blk_frozen BK196.out 4
                  go_wp2_with (first | ((with_reducible refine gate_callee (f := 109) rfl ?_); refine goesL_ (some 24) rfl rfl Try.func109 (by kernel_rfl) rfl #[.int .i64 a0_0] rfl (by (try simp only [List.map_toArray, List.map_cons, List.map_nil]); first | done | rfl | (simp only [List.length_drop, List.length_take]; rfl)) ?_; (with_reducible refine (scope_named.calls a0_0 true _ A17.out).mono ?_); rintro e w' ⟨rfl, ⟨nd, rfl⟩⟩; refine ⟨_, rfl, ?_⟩))
                  go_meet
                  case rel => exact ⟨_, (false), (by first | rfl | (simp; done) | (simp [*]; done) | (simp [*]; exact (show ∀ l_ : List UInt8, l_.isEmpty = !(l_ != []) from fun l_ => by cases l_ <;> rfl) _)), H', ⟨by have := HJ1.out; have := HJ7.out; first | omega | exact Nat.le_refl _⟩, ⟨by (with_reducible repeat (first | refine blk_drewN ?_ _ | refine blk_drew ?_ | refine blk_alloc ?_ _)); exact BK196.out⟩, ⟨by repeat (first | (with_reducible first | exact HB.out | apply below_alloc | apply pw_below_drewN | apply below_drew1 | refine below_set ?_ GE196.out) | exact HB.out)⟩⟩
                · replace c18 := Bool.eq_false_iff.mpr c18
                  subst c18
                  have H1 : (scope_fields.j2 kj7 (a0_1.toList != ([] : List UInt8)) a0_0 a0_1 a0_2 a0_3 l0_4) = some r := by rw [if_neg (show ¬ (false = true) by decide)] at H; exact H
                  clear H
                  have H := H1
                  clear H1
                  have H' := Aside0.mk H
                  clear H
                  have hcz20_0 : wc.cell? ⟨gb196, 0, none⟩ = some (.int .i64 a0_0) := (blk_cell BK196.out 0).trans rfl
                  have hcz20_1 : wc.cell? ⟨gb196, 1, none⟩ = some (.string a0_1) := (blk_cell BK196.out 1).trans rfl
                  have hcz20_2 : wc.cell? ⟨gb196, 2, none⟩ = some (.int .i64 a0_2) := (blk_cell BK196.out 2).trans rfl
                  have hcz20_3 : wc.cell? ⟨gb196, 3, none⟩ = some (.int .i64 a0_3) := (blk_cell BK196.out 3).trans rfl
                  have hcz20_4 : wc.cell? ⟨gb196, 4, none⟩ = some (.slice A0_4 l0_4.length c0_4) := (blk_cell BK196.out 4).trans rfl
                  have hfz20_0 := blk_frozen BK196.out 0
                  have hfz20_1 := blk_frozen BK196.out 1
                  have hfz20_2 := blk_frozen BK196.out 2
                  have hfz20_3 := blk_frozen BK196.out 3
                  have hfz20_4 := blk_frozen BK196.out 4
                  go_wp2_with (first | ((with_reducible refine gate_callee (f := 109) rfl ?_); refine goesL_ (some 24) rfl rfl Try.func109 (by kernel_rfl) rfl #[.int .i64 a0_0] rfl (by (try simp only [List.map_toArray, List.map_cons, List.map_nil]); first | done | rfl | (simp only [List.length_drop, List.length_take]; rfl)) ?_; (with_reducible refine (scope_named.calls a0_0 false _ A17.out).mono ?_); rintro e w' ⟨rfl, ⟨nd, rfl⟩⟩; refine ⟨_, rfl, ?_⟩))
                  go_meet
                  case rel => exact ⟨_, ((a0_1.toList != ([] : List UInt8))), (by first | rfl | (simp; done) | (simp [*]; done) | (simp [*]; exact (show ∀ l_ : List UInt8, l_.isEmpty = !(l_ != []) from fun l_ => by cases l_ <;> rfl) _)), H', ⟨by have := HJ1.out; have := HJ7.out; first | omega | exact Nat.le_refl _⟩, ⟨by (with_reducible repeat (first | refine blk_drewN ?_ _ | refine blk_drew ?_ | refine blk_alloc ?_ _)); exact BK196.out⟩, ⟨by repeat (first | (with_reducible first | exact HB.out | apply below_alloc | apply pw_below_drewN | apply below_drew1 | refine below_set ?_ GE196.out) | exact HB.out)⟩⟩
            case rest =>
              clear HC15
              try clear c1
              try clear p2
              try clear c4
              try clear c4b0
              try clear c7
              try clear c10
              try clear c11
              try clear c16
              try clear c18
              try clear hcz12_0
              try clear hcz12_1
              try clear hcz12_2
              try clear hcz12_3
              try clear hcz12_4
              try clear hcz14_0
              try clear hcz14_1
              try clear hcz14_2
              try clear hcz14_3
              try clear hcz14_4
              try clear hcz19_0
              try clear hcz19_1
              try clear hcz19_2
              try clear hcz19_3
              try clear hcz19_4
              try clear hcz20_0
              try clear hcz20_1
              try clear hcz20_2
              try clear hcz20_3
              try clear hcz20_4
              try clear hcz5_0
              try clear hcz5_1
              try clear hcz5_2
              try clear hcz5_3
              try clear hcz5_4
              try clear hcz6_0
              try clear hcz6_1
              try clear hcz6_2
              try clear hcz6_3
              try clear hcz6_4
              try clear hfz12_0
              try clear hfz12_1
              try clear hfz12_2
              try clear hfz12_3
              try clear hfz12_4
              try clear hfz14_0
              try clear hfz14_1
              try clear hfz14_2
              try clear hfz14_3
              try clear hfz14_4
              try clear hfz19_0
              try clear hfz19_1
              try clear hfz19_2
              try clear hfz19_3
              try clear hfz19_4
              try clear hfz20_0
              try clear hfz20_1
              try clear hfz20_2
              try clear hfz20_3
              try clear hfz20_4
              try clear hfz5_0
              try clear hfz5_1
              try clear hfz5_2
              try clear hfz5_3
              try clear hfz5_4
              try clear hfz6_0
              try clear hfz6_1
              try clear hfz6_2
              try clear hfz6_3
              try clear hfz6_4
              try clear p2
              obtain ⟨kq, x12_14, rfl, HA, HJ14, BK196, HB⟩ := hcut
              cases kq with
              | zero => exact absurd HA.out (by simp [scope_fields.j2])
              | succ kj14 =>
                have H := HA.out
                clear HA
                simp only [scope_fields.j2] at H
                by_cases c21 : x12_14 = true
                · subst c21
                  have H1 : (some false) = some r := by rw [if_pos rfl] at H; exact H
                  clear H
                  have H := H1
                  clear H1
                  obtain rfl := Option.some.inj H
                  go_wp2
                  go_ret
                  exact ⟨by first | rfl | (simp [errW_none, errW_some] <;> rfl) | (simp [*, errW_none, errW_some] <;> rfl), by repeat (first | (with_reducible first | exact HB.out | apply below_alloc | apply pw_below_drewN | apply below_drew1 | refine below_set ?_ GE196.out) | exact HB.out)⟩
                · replace c21 := Bool.eq_false_iff.mpr c21
                  subst c21
                  have H1 : (if a0_0 = 5 then (if a0_2 ≥ 0 then (if a0_2 ≤ a0_3 then (some (decide (a0_3 ≤ 1099511627776))) else (some false)) else (some false)) else (if a0_2 = 0 then (some (a0_3 == 0)) else (some false))) = some r := by rw [if_neg (show ¬ (false = true) by decide)] at H; exact H
                  clear H
                  have H := H1
                  clear H1
                  by_cases c22 : a0_0 = 5
                  · rw [if_pos c22] at H
                    have c22b0 : (a0_0 == 5) = true := beq_iff_eq.mpr c22
                    have c22b1 : (a0_0 != 5) = false := bne_eq_false_iff_eq.mpr c22
                    clear c22
                    by_cases c23 : a0_2 ≥ 0
                    · rw [if_pos c23] at H
                      have c23b0 : decide (0 ≤ a0_2) = true := decide_eq_true c23
                      clear c23
                      by_cases c24 : a0_2 ≤ a0_3
                      · rw [if_pos c24] at H
                        have c24b0 : decide (a0_2 ≤ a0_3) = true := decide_eq_true c24
                        clear c24
                        obtain rfl := Option.some.inj H
                        have hcz25_0 : wc.cell? ⟨gb196, 0, none⟩ = some (.int .i64 a0_0) := (blk_cell BK196.out 0).trans rfl
                        have hcz25_1 : wc.cell? ⟨gb196, 1, none⟩ = some (.string a0_1) := (blk_cell BK196.out 1).trans rfl
                        have hcz25_2 : wc.cell? ⟨gb196, 2, none⟩ = some (.int .i64 a0_2) := (blk_cell BK196.out 2).trans rfl
                        have hcz25_3 : wc.cell? ⟨gb196, 3, none⟩ = some (.int .i64 a0_3) := (blk_cell BK196.out 3).trans rfl
                        have hcz25_4 : wc.cell? ⟨gb196, 4, none⟩ = some (.slice A0_4 l0_4.length c0_4) := (blk_cell BK196.out 4).trans rfl
                        have hfz25_0 := blk_frozen BK196.out 0
                        have hfz25_1 := blk_frozen BK196.out 1
                        have hfz25_2 := blk_frozen BK196.out 2
                        have hfz25_3 := blk_frozen BK196.out 3
                        have hfz25_4 := blk_frozen BK196.out 4
                        go_wp2
                        go_ret
                        exact ⟨by first | rfl | (simp [errW_none, errW_some] <;> rfl) | (simp [*, errW_none, errW_some] <;> rfl), by repeat (first | (with_reducible first | exact HB.out | apply below_alloc | apply pw_below_drewN | apply below_drew1 | refine below_set ?_ GE196.out) | exact HB.out)⟩
                      · rw [if_neg c24] at H
                        have c24b0 : decide (a0_2 ≤ a0_3) = false := decide_eq_false c24
                        clear c24
                        obtain rfl := Option.some.inj H
                        have hcz26_0 : wc.cell? ⟨gb196, 0, none⟩ = some (.int .i64 a0_0) := (blk_cell BK196.out 0).trans rfl
                        have hcz26_1 : wc.cell? ⟨gb196, 1, none⟩ = some (.string a0_1) := (blk_cell BK196.out 1).trans rfl
                        have hcz26_2 : wc.cell? ⟨gb196, 2, none⟩ = some (.int .i64 a0_2) := (blk_cell BK196.out 2).trans rfl
                        have hcz26_3 : wc.cell? ⟨gb196, 3, none⟩ = some (.int .i64 a0_3) := (blk_cell BK196.out 3).trans rfl
                        have hcz26_4 : wc.cell? ⟨gb196, 4, none⟩ = some (.slice A0_4 l0_4.length c0_4) := (blk_cell BK196.out 4).trans rfl
                        have hfz26_0 := blk_frozen BK196.out 0
                        have hfz26_1 := blk_frozen BK196.out 1
                        have hfz26_2 := blk_frozen BK196.out 2
                        have hfz26_3 := blk_frozen BK196.out 3
                        have hfz26_4 := blk_frozen BK196.out 4
                        go_wp2
                        go_ret
                        exact ⟨by first | rfl | (simp [errW_none, errW_some] <;> rfl) | (simp [*, errW_none, errW_some] <;> rfl), by repeat (first | (with_reducible first | exact HB.out | apply below_alloc | apply pw_below_drewN | apply below_drew1 | refine below_set ?_ GE196.out) | exact HB.out)⟩
                    · rw [if_neg c23] at H
                      have c23b0 : decide (0 ≤ a0_2) = false := decide_eq_false c23
                      clear c23
                      obtain rfl := Option.some.inj H
                      have hcz27_0 : wc.cell? ⟨gb196, 0, none⟩ = some (.int .i64 a0_0) := (blk_cell BK196.out 0).trans rfl
                      have hcz27_1 : wc.cell? ⟨gb196, 1, none⟩ = some (.string a0_1) := (blk_cell BK196.out 1).trans rfl
                      have hcz27_2 : wc.cell? ⟨gb196, 2, none⟩ = some (.int .i64 a0_2) := (blk_cell BK196.out 2).trans rfl
                      have hcz27_3 : wc.cell? ⟨gb196, 3, none⟩ = some (.int .i64 a0_3) := (blk_cell BK196.out 3).trans rfl
                      have hcz27_4 : wc.cell? ⟨gb196, 4, none⟩ = some (.slice A0_4 l0_4.length c0_4) := (blk_cell BK196.out 4).trans rfl
                      have hfz27_0 := blk_frozen BK196.out 0
                      have hfz27_1 := blk_frozen BK196.out 1
                      have hfz27_2 := blk_frozen BK196.out 2
                      have hfz27_3 := blk_frozen BK196.out 3
                      have hfz27_4 := blk_frozen BK196.out 4
                      go_wp2
                      go_ret
                      exact ⟨by first | rfl | (simp [errW_none, errW_some] <;> rfl) | (simp [*, errW_none, errW_some] <;> rfl), by repeat (first | (with_reducible first | exact HB.out | apply below_alloc | apply pw_below_drewN | apply below_drew1 | refine below_set ?_ GE196.out) | exact HB.out)⟩
                  · rw [if_neg c22] at H
                    have c22b0 : (a0_0 == 5) = false := beq_eq_false_iff_ne.mpr c22
                    have c22b1 : (a0_0 != 5) = true := bne_iff_ne.mpr c22
                    by_cases c28 : a0_2 = 0
                    · rw [if_pos c28] at H
                      have c28b0 : (a0_2 == 0) = true := beq_iff_eq.mpr c28
                      have c28b1 : (a0_2 != 0) = false := bne_eq_false_iff_eq.mpr c28
                      clear c28
                      obtain rfl := Option.some.inj H
                      have hcz29_0 : wc.cell? ⟨gb196, 0, none⟩ = some (.int .i64 a0_0) := (blk_cell BK196.out 0).trans rfl
                      have hcz29_1 : wc.cell? ⟨gb196, 1, none⟩ = some (.string a0_1) := (blk_cell BK196.out 1).trans rfl
                      have hcz29_2 : wc.cell? ⟨gb196, 2, none⟩ = some (.int .i64 a0_2) := (blk_cell BK196.out 2).trans rfl
                      have hcz29_3 : wc.cell? ⟨gb196, 3, none⟩ = some (.int .i64 a0_3) := (blk_cell BK196.out 3).trans rfl
                      have hcz29_4 : wc.cell? ⟨gb196, 4, none⟩ = some (.slice A0_4 l0_4.length c0_4) := (blk_cell BK196.out 4).trans rfl
                      have hfz29_0 := blk_frozen BK196.out 0
                      have hfz29_1 := blk_frozen BK196.out 1
                      have hfz29_2 := blk_frozen BK196.out 2
                      have hfz29_3 := blk_frozen BK196.out 3
                      have hfz29_4 := blk_frozen BK196.out 4
                      go_wp2
                      go_ret
                      exact ⟨by first | rfl | (simp [errW_none, errW_some] <;> rfl) | (simp [*, errW_none, errW_some] <;> rfl), by repeat (first | (with_reducible first | exact HB.out | apply below_alloc | apply pw_below_drewN | apply below_drew1 | refine below_set ?_ GE196.out) | exact HB.out)⟩
                    · rw [if_neg c28] at H
                      have c28b0 : (a0_2 == 0) = false := beq_eq_false_iff_ne.mpr c28
                      have c28b1 : (a0_2 != 0) = true := bne_iff_ne.mpr c28
                      obtain rfl := Option.some.inj H
                      have hcz30_0 : wc.cell? ⟨gb196, 0, none⟩ = some (.int .i64 a0_0) := (blk_cell BK196.out 0).trans rfl
                      have hcz30_1 : wc.cell? ⟨gb196, 1, none⟩ = some (.string a0_1) := (blk_cell BK196.out 1).trans rfl
                      have hcz30_2 : wc.cell? ⟨gb196, 2, none⟩ = some (.int .i64 a0_2) := (blk_cell BK196.out 2).trans rfl
                      have hcz30_3 : wc.cell? ⟨gb196, 3, none⟩ = some (.int .i64 a0_3) := (blk_cell BK196.out 3).trans rfl
                      have hcz30_4 : wc.cell? ⟨gb196, 4, none⟩ = some (.slice A0_4 l0_4.length c0_4) := (blk_cell BK196.out 4).trans rfl
                      have hfz30_0 := blk_frozen BK196.out 0
                      have hfz30_1 := blk_frozen BK196.out 1
                      have hfz30_2 := blk_frozen BK196.out 2
                      have hfz30_3 := blk_frozen BK196.out 3
                      have hfz30_4 := blk_frozen BK196.out 4
                      go_wp2
                      go_ret
                      exact ⟨by first | rfl | (simp [errW_none, errW_some] <;> rfl) | (simp [*, errW_none, errW_some] <;> rfl), by repeat (first | (with_reducible first | exact HB.out | apply below_alloc | apply pw_below_drewN | apply below_drew1 | refine below_set ?_ GE196.out) | exact HB.out)⟩

end Go.Proofs.Ytgdpabedlghiaaa.PZ
