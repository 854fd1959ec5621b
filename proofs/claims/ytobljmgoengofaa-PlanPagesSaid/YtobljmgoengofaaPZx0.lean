-- printed for this claim by a program (pall.sh)
import Derived.Test.YtobljmgoengofaaProg
import Derived.Below
import Derived.Deep.Draws
import Derived.Deep.AppendLies
import Derived.Maps.AppendAt
import Derived.OwnWalk
import Derived.Laws.BytesArg
import Derived.Laws.MakeOwn
import Derived.Laws.OwnMore
import Derived.Deep.OwnRows
import Derived.Tactics
import Derived.Lib.ConvBytes
import Derived.Laws.Slices
import Derived.WalkKit
import Derived.KernelRfl
import Derived.RowKit3
import Derived.Deep.LoopGhost
import Derived.Deep.QuietTactic
import Derived.BigQuiet
import Derived.WideLaws
import Derived.Deep.DeepCutAuto
import Derived.Deep.CutBlock
import Derived.Deep.RegionHeld3
import Derived.Laws.Rows
import Derived.Lib.AppendStr
import Derived.ArgAppend
import Derived.Laws.IdiomCopy
import Derived.OrdersHeld
import Derived.Laws.BitsLemmas
import Derived.RowKit
import Derived.Test.YtobljmgoengofaaWWords
import Derived.Test.YtobljmgoengofaaWLast
import Derived.Test.YtobljmgoengofaaWTab
import Derived.Test.YtobljmgoengofaaWFour
import Derived.Test.YtobljmgoengofaaWQPut
import Derived.Test.YtobljmgoengofaaWApart
import Derived.Test.YtobljmgoengofaaWArr
import Derived.Test.YtobljmgoengofaaWZeros
import Derived.Test.YtobljmgoengofaaWFoot
import Derived.Test.YtobljmgoengofaaWKept
import Derived.Test.YtobljmgoengofaaWShare
import Derived.Test.YtobljmgoengofaaWN
import Derived.Test.YtobljmgoengofaaWFootNe
import Derived.Test.YtobljmgoengofaaWAt
import Derived.Test.YtobljmgoengofaaWEqStruct
import Derived.Test.YtobljmgoengofaaWRepsOne
import Derived.Test.YtobljmgoengofaaWInv
import Derived.Test.YtobljmgoengofaaWInvWords
import Derived.Test.YtobljmgoengofaaWGuard
import Derived.Test.YtobljmgoengofaaWNEv
import Derived.Test.YtobljmgoengofaaWMore
namespace Go.Proofs.Ytobljmgoengofaa.PZ
open Go.RowKit Go.Proofs.YtobljmgoengofaaW.PrintWords Go.Proofs.YtobljmgoengofaaW.PrintLast Go.Proofs.YtobljmgoengofaaW.PrintMore
attribute [local go_sem] max2_int min2_int max_two min_two max_three min_three max_four min_four   -- for this text's walks alone
set_option linter.unusedVariables false
set_option linter.unusedSimpArgs false



def errW : Option Int → Value
  | none => .nilIface
  | some c => .iface 0 (.int .i64 c)
theorem errW_none : errW none = .nilIface := rfl
theorem errW_some (c : Int) : errW (some c) = .iface 0 (.int .i64 c) := rfl

theorem info3 : (Try.prog.info? 3).map (fun i => (i.zero, i.size, i.bytes)) = some (some (.int .i64 0), 1, 8) := by kernel_rfl
theorem info4 : (Try.prog.info? 4).map (fun i => (i.zero, i.size, i.bytes)) = some (some (.bool false), 1, 1) := by kernel_rfl
theorem info5 : (Try.prog.info? 5).map (fun i => (i.zero, i.size, i.bytes)) = some (some (.int .u8 0), 1, 1) := by kernel_rfl
theorem info22 : (Try.prog.info? 22).map (fun i => (i.zero, i.size, i.bytes)) = some (some (.slice none 0 0), 1, 24) := by kernel_rfl
-- the values' own types
def rd_L3 (xs : List (List Int)) (i : Int) : (List Int) := xs.getD i.toNat ([] : List Int)
theorem at_L3 {w : World} {A : Option Addr} {n : Nat} {xs : List (List Int)} (h : Kd.C (Kd.slice 5 (Kd.int .u8)) w A n xs) (i : Int) (h0 : 0 ≤ i) (h1 : i < n) : ∃ ad A0 c0, A = some ad ∧ w.cell? (ad.add i.toNat) = some (.slice A0 (rd_L3 xs i).length c0) ∧ (rd_L3 xs i).length ≤ c0 ∧ (Kd.int .u8).C w A0 (rd_L3 xs i).length (rd_L3 xs i) := by
  obtain ⟨ad, c, e, _, hK, hc0⟩ := Kd.C_get h ([] : List Int) i h0 h1
  have hc : ∀ j u, c[j]? = some u → w.cell? (ad.add (i.toNat * 1 + j)) = some u := hc0
  obtain ⟨A0, c0, rfl, l0, g0⟩ := hK
  exact ⟨ad, A0, c0, e, by have hq := hc 0 _ rfl; rwa [Nat.mul_one, Nat.add_zero] at hq, l0, g0⟩

/-! #### struct type 75, nested in itself -/
structure S75 where
  f0 : Int
  f1 : ByteArray
  f2 : Int
  f3 : Int
  f4 : (List S75)
def z75 : S75 := ⟨(0 : Int), (⟨#[]⟩ : ByteArray), (0 : Int), (0 : Int), ([] : List S75)⟩
def F75 (d : Kd S75) : Kd S75 := Kd.iso (Kd.pair (Kd.int .i64) (Kd.pair Kd.string (Kd.pair (Kd.int .i64) (Kd.pair (Kd.int .i64) (Kd.slice 75 d))))) (fun x : S75 => (x.f0, x.f1, x.f2, x.f3, x.f4))
theorem mono75 : Kd.Mono F75 := Kd.mono_iso _ (Kd.mono_pair (Kd.mono_const _) (Kd.mono_pair (Kd.mono_const _) (Kd.mono_pair (Kd.mono_const _) (Kd.mono_pair (Kd.mono_const _) (Kd.mono_slice 75 Kd.mono_id)))))
theorem sub75 : Kd.Sub F75 [75] := Kd.sub_iso _ (Kd.sub_pair (Kd.sub_const _ (by decide)) (Kd.sub_pair (Kd.sub_const _ (by decide)) (Kd.sub_pair (Kd.sub_const _ (by decide)) (Kd.sub_pair (Kd.sub_const _ (by decide)) (Kd.sub_slice 75 (by decide) Kd.sub_id)))))
theorem sz75 : ∀ n, (Kd.upto F75 5 [75] n).sz = 5 := Kd.upto_sz (fun _ => rfl)
def k75 : Kd S75 := Kd.fix F75 5 [75] sz75 (Kd.upto_E sub75)
theorem k75_open {w : World} {x : S75} {cs : List Value} (h : k75.K w x cs) : ∃ A4 c4, cs = [.int .i64 x.f0, .string x.f1, .int .i64 x.f2, .int .i64 x.f3, .slice A4 x.f4.length c4] ∧ x.f4.length ≤ c4 ∧ k75.C w A4 x.f4.length x.f4 := by
  obtain ⟨n, h⟩ := h
  cases n with
  | zero => exact h.elim
  | succ n =>
    obtain ⟨_, _, rfl, rfl, ⟨_, _, rfl, rfl, ⟨_, _, rfl, rfl, ⟨_, _, rfl, rfl, ⟨A4, c4, rfl, l4, g4⟩⟩⟩⟩⟩ := h
    exact ⟨A4, c4, rfl, l4, Kd.fix_C g4⟩
theorem k75_openM {w : World} {base : Nat} {ok : Nat → Prop} {x : S75} {cs : List Value} (h : k75.M w base ok x cs) : ∃ v4, cs = [.int .i64 x.f0, .string x.f1, .int .i64 x.f2, .int .i64 x.f3, v4] ∧ k75.R 75 w base ok v4 x.f4 := by
  obtain ⟨n, h⟩ := h
  cases n with
  | zero => exact h.elim
  | succ n =>
    obtain ⟨_, _, rfl, rfl, ⟨_, _, rfl, rfl, ⟨_, _, rfl, rfl, ⟨_, _, rfl, rfl, ⟨v4, rfl, g4⟩⟩⟩⟩⟩ := h
    exact ⟨v4, rfl, Kd.fix_R g4⟩
theorem k75_mk (w : World) (x : S75) {A4 : Option Addr} {c4 : Nat} (l4 : x.f4.length ≤ c4) (g4 : k75.C w A4 x.f4.length x.f4) : k75.K w x [.int .i64 x.f0, .string x.f1, .int .i64 x.f2, .int .i64 x.f3, .slice A4 x.f4.length c4] := by
  obtain ⟨n4, q4⟩ := Kd.fix_C_back mono75 g4
  have r4 := Kd.upto_C_le mono75 sz75 (show n4 ≤ n4 by omega) q4
  exact ⟨n4 + 1, ⟨[.int .i64 x.f0], [.string x.f1, .int .i64 x.f2, .int .i64 x.f3, .slice A4 x.f4.length c4], rfl, rfl, ⟨[.string x.f1], [.int .i64 x.f2, .int .i64 x.f3, .slice A4 x.f4.length c4], rfl, rfl, ⟨[.int .i64 x.f2], [.int .i64 x.f3, .slice A4 x.f4.length c4], rfl, rfl, ⟨[.int .i64 x.f3], [.slice A4 x.f4.length c4], rfl, rfl, ⟨A4, c4, rfl, l4, r4⟩⟩⟩⟩⟩⟩
theorem k75_mkM (w : World) (base : Nat) (ok : Nat → Prop) (x : S75) {v4 : Value} (g4 : k75.R 75 w base ok v4 x.f4) : k75.M w base ok x [.int .i64 x.f0, .string x.f1, .int .i64 x.f2, .int .i64 x.f3, v4] := by
  obtain ⟨n4, q4⟩ := Kd.fix_R_back mono75 g4
  have r4 := Kd.upto_R_le mono75 sz75 (show n4 ≤ n4 by omega) q4
  exact ⟨n4 + 1, ⟨[.int .i64 x.f0], [.string x.f1, .int .i64 x.f2, .int .i64 x.f3, v4], rfl, rfl, ⟨[.string x.f1], [.int .i64 x.f2, .int .i64 x.f3, v4], rfl, rfl, ⟨[.int .i64 x.f2], [.int .i64 x.f3, v4], rfl, rfl, ⟨[.int .i64 x.f3], [v4], rfl, rfl, ⟨v4, rfl, r4⟩⟩⟩⟩⟩⟩
theorem k75_openF {W : World} {ok : Nat → Prop} {x : S75} {cs : List Value} (h : Kd.FK k75 W ok x cs) : ∃ A4 c4, cs = [.int .i64 x.f0, .string x.f1, .int .i64 x.f2, .int .i64 x.f3, .slice A4 x.f4.length c4] ∧ x.f4.length ≤ c4 ∧ Kd.F k75 W ok A4 x.f4.length x.f4 := by
  obtain ⟨A4, c4, rfl, l4, _⟩ := k75_open (Kd.FK_now h)
  exact ⟨A4, c4, rfl, l4, (fun W' hW => by obtain ⟨A4_, c4_, he, l4_, g4_⟩ := k75_open (h W' hW); injection (Option.some.inj (show some (Value.slice A4 x.f4.length c4) = some (Value.slice A4_ x.f4.length c4_) from congrArg (fun l => l[4]?) he)) with ha_ _ _; rw [ha_]; exact g4_)⟩
theorem k75_mkF (W : World) (ok : Nat → Prop) (x : S75) {A4 : Option Addr} {c4 : Nat} (l4 : x.f4.length ≤ c4) (g4 : Kd.F k75 W ok A4 x.f4.length x.f4) : Kd.FK k75 W ok x [.int .i64 x.f0, .string x.f1, .int .i64 x.f2, .int .i64 x.f3, .slice A4 x.f4.length c4] := fun W2 hW => k75_mk W2 x l4 (g4 W2 hW)
def rd_T75 (xs : List S75) (i : Int) : S75 := xs.getD i.toNat z75
theorem at_T75 {w : World} {A : Option Addr} {n : Nat} {xs : List S75} (h : Kd.C k75 w A n xs) (i : Int) (h0 : 0 ≤ i) (h1 : i < n) : ∃ ad A4 c4, A = some ad ∧ w.cell? (ad.add (i.toNat * 5)) = some (.int .i64 (rd_T75 xs i).f0) ∧ w.cell? ⟨(ad.add (i.toNat * 5)).block, (ad.add (i.toNat * 5)).off + 1, none⟩ = some (.string (rd_T75 xs i).f1) ∧ w.cell? ⟨(ad.add (i.toNat * 5)).block, (ad.add (i.toNat * 5)).off + 2, none⟩ = some (.int .i64 (rd_T75 xs i).f2) ∧ w.cell? ⟨(ad.add (i.toNat * 5)).block, (ad.add (i.toNat * 5)).off + 3, none⟩ = some (.int .i64 (rd_T75 xs i).f3) ∧ w.cell? ⟨(ad.add (i.toNat * 5)).block, (ad.add (i.toNat * 5)).off + 4, none⟩ = some (.slice A4 (rd_T75 xs i).f4.length c4) ∧ (rd_T75 xs i).f4.length ≤ c4 ∧ k75.C w A4 (rd_T75 xs i).f4.length (rd_T75 xs i).f4 := by
  obtain ⟨ad, c, e, _, hK, hc0⟩ := Kd.C_get h z75 i h0 h1
  have hc : ∀ j u, c[j]? = some u → w.cell? (ad.add (i.toNat * 5 + j)) = some u := hc0
  obtain ⟨A4, c4, rfl, l4, g4⟩ := k75_open hK
  exact ⟨ad, A4, c4, e, hc 0 _ rfl, by rw [← add_field _ _ 1 (by omega)]; exact hc 1 _ rfl, by rw [← add_field _ _ 2 (by omega)]; exact hc 2 _ rfl, by rw [← add_field _ _ 3 (by omega)]; exact hc 3 _ rfl, by rw [← add_field _ _ 4 (by omega)]; exact hc 4 _ rfl, l4, g4⟩

/-! #### struct type 77 -/
structure S77 where
  f0 : Int
  f1 : ByteArray
  f2 : ByteArray
  f3 : ByteArray
  f4 : ByteArray
  f5 : Int
  f6 : (List Int)
  f7 : Int
  f8 : Int
  f9 : S75
def z77 : S77 := ⟨(0 : Int), (⟨#[]⟩ : ByteArray), (⟨#[]⟩ : ByteArray), (⟨#[]⟩ : ByteArray), (⟨#[]⟩ : ByteArray), (0 : Int), ([] : List Int), (0 : Int), (0 : Int), z75⟩
def k77 : Kd S77 := Kd.iso (Kd.pair (Kd.int .i64) (Kd.pair Kd.string (Kd.pair Kd.string (Kd.pair Kd.string (Kd.pair Kd.string (Kd.pair (Kd.int .i64) (Kd.pair (Kd.slice 5 (Kd.int .u8)) (Kd.pair (Kd.int .u64) (Kd.pair (Kd.int .u64) k75))))))))) (fun x : S77 => (x.f0, x.f1, x.f2, x.f3, x.f4, x.f5, x.f6, x.f7, x.f8, x.f9))
theorem k77_open {w : World} {x : S77} {cs : List Value} (h : k77.K w x cs) : ∃ A6 c6 A13 c13, cs = [.int .i64 x.f0, .string x.f1, .string x.f2, .string x.f3, .string x.f4, .int .i64 x.f5, .slice A6 x.f6.length c6, .int .u64 x.f7, .int .u64 x.f8, .int .i64 x.f9.f0, .string x.f9.f1, .int .i64 x.f9.f2, .int .i64 x.f9.f3, .slice A13 x.f9.f4.length c13] ∧ x.f6.length ≤ c6 ∧ (Kd.int .u8).C w A6 x.f6.length x.f6 ∧ x.f9.f4.length ≤ c13 ∧ k75.C w A13 x.f9.f4.length x.f9.f4 := by
  obtain ⟨_, _, rfl, rfl, ⟨_, _, rfl, rfl, ⟨_, _, rfl, rfl, ⟨_, _, rfl, rfl, ⟨_, _, rfl, rfl, ⟨_, _, rfl, rfl, ⟨_, _, rfl, ⟨A6, c6, rfl, l6, g6⟩, ⟨_, _, rfl, rfl, ⟨_, _, rfl, rfl, s9⟩⟩⟩⟩⟩⟩⟩⟩⟩ := h
  obtain ⟨A13, c13, rfl, l13, g13⟩ := k75_open s9
  exact ⟨A6, c6, A13, c13, rfl, l6, g6, l13, g13⟩
theorem k77_openM {w : World} {base : Nat} {ok : Nat → Prop} {x : S77} {cs : List Value} (h : k77.M w base ok x cs) : ∃ v6 v13, cs = [.int .i64 x.f0, .string x.f1, .string x.f2, .string x.f3, .string x.f4, .int .i64 x.f5, v6, .int .u64 x.f7, .int .u64 x.f8, .int .i64 x.f9.f0, .string x.f9.f1, .int .i64 x.f9.f2, .int .i64 x.f9.f3, v13] ∧ (Kd.int .u8).R 5 w base ok v6 x.f6 ∧ k75.R 75 w base ok v13 x.f9.f4 := by
  obtain ⟨_, _, rfl, rfl, ⟨_, _, rfl, rfl, ⟨_, _, rfl, rfl, ⟨_, _, rfl, rfl, ⟨_, _, rfl, rfl, ⟨_, _, rfl, rfl, ⟨_, _, rfl, ⟨v6, rfl, g6⟩, ⟨_, _, rfl, rfl, ⟨_, _, rfl, rfl, s9⟩⟩⟩⟩⟩⟩⟩⟩⟩ := h
  obtain ⟨v13, rfl, g13⟩ := k75_openM s9
  exact ⟨v6, v13, rfl, g6, g13⟩
theorem k77_mk (w : World) (x : S77) {A6 : Option Addr} {c6 : Nat} (l6 : x.f6.length ≤ c6) (g6 : (Kd.int .u8).C w A6 x.f6.length x.f6) {A13 : Option Addr} {c13 : Nat} (l13 : x.f9.f4.length ≤ c13) (g13 : k75.C w A13 x.f9.f4.length x.f9.f4) : k77.K w x [.int .i64 x.f0, .string x.f1, .string x.f2, .string x.f3, .string x.f4, .int .i64 x.f5, .slice A6 x.f6.length c6, .int .u64 x.f7, .int .u64 x.f8, .int .i64 x.f9.f0, .string x.f9.f1, .int .i64 x.f9.f2, .int .i64 x.f9.f3, .slice A13 x.f9.f4.length c13] := ⟨[.int .i64 x.f0], [.string x.f1, .string x.f2, .string x.f3, .string x.f4, .int .i64 x.f5, .slice A6 x.f6.length c6, .int .u64 x.f7, .int .u64 x.f8, .int .i64 x.f9.f0, .string x.f9.f1, .int .i64 x.f9.f2, .int .i64 x.f9.f3, .slice A13 x.f9.f4.length c13], rfl, rfl, ⟨[.string x.f1], [.string x.f2, .string x.f3, .string x.f4, .int .i64 x.f5, .slice A6 x.f6.length c6, .int .u64 x.f7, .int .u64 x.f8, .int .i64 x.f9.f0, .string x.f9.f1, .int .i64 x.f9.f2, .int .i64 x.f9.f3, .slice A13 x.f9.f4.length c13], rfl, rfl, ⟨[.string x.f2], [.string x.f3, .string x.f4, .int .i64 x.f5, .slice A6 x.f6.length c6, .int .u64 x.f7, .int .u64 x.f8, .int .i64 x.f9.f0, .string x.f9.f1, .int .i64 x.f9.f2, .int .i64 x.f9.f3, .slice A13 x.f9.f4.length c13], rfl, rfl, ⟨[.string x.f3], [.string x.f4, .int .i64 x.f5, .slice A6 x.f6.length c6, .int .u64 x.f7, .int .u64 x.f8, .int .i64 x.f9.f0, .string x.f9.f1, .int .i64 x.f9.f2, .int .i64 x.f9.f3, .slice A13 x.f9.f4.length c13], rfl, rfl, ⟨[.string x.f4], [.int .i64 x.f5, .slice A6 x.f6.length c6, .int .u64 x.f7, .int .u64 x.f8, .int .i64 x.f9.f0, .string x.f9.f1, .int .i64 x.f9.f2, .int .i64 x.f9.f3, .slice A13 x.f9.f4.length c13], rfl, rfl, ⟨[.int .i64 x.f5], [.slice A6 x.f6.length c6, .int .u64 x.f7, .int .u64 x.f8, .int .i64 x.f9.f0, .string x.f9.f1, .int .i64 x.f9.f2, .int .i64 x.f9.f3, .slice A13 x.f9.f4.length c13], rfl, rfl, ⟨[.slice A6 x.f6.length c6], [.int .u64 x.f7, .int .u64 x.f8, .int .i64 x.f9.f0, .string x.f9.f1, .int .i64 x.f9.f2, .int .i64 x.f9.f3, .slice A13 x.f9.f4.length c13], rfl, ⟨A6, c6, rfl, l6, g6⟩, ⟨[.int .u64 x.f7], [.int .u64 x.f8, .int .i64 x.f9.f0, .string x.f9.f1, .int .i64 x.f9.f2, .int .i64 x.f9.f3, .slice A13 x.f9.f4.length c13], rfl, rfl, ⟨[.int .u64 x.f8], [.int .i64 x.f9.f0, .string x.f9.f1, .int .i64 x.f9.f2, .int .i64 x.f9.f3, .slice A13 x.f9.f4.length c13], rfl, rfl, (k75_mk w x.f9 l13 g13)⟩⟩⟩⟩⟩⟩⟩⟩⟩
theorem k77_mkM (w : World) (base : Nat) (ok : Nat → Prop) (x : S77) {v6 : Value} (g6 : (Kd.int .u8).R 5 w base ok v6 x.f6) {v13 : Value} (g13 : k75.R 75 w base ok v13 x.f9.f4) : k77.M w base ok x [.int .i64 x.f0, .string x.f1, .string x.f2, .string x.f3, .string x.f4, .int .i64 x.f5, v6, .int .u64 x.f7, .int .u64 x.f8, .int .i64 x.f9.f0, .string x.f9.f1, .int .i64 x.f9.f2, .int .i64 x.f9.f3, v13] := ⟨[.int .i64 x.f0], [.string x.f1, .string x.f2, .string x.f3, .string x.f4, .int .i64 x.f5, v6, .int .u64 x.f7, .int .u64 x.f8, .int .i64 x.f9.f0, .string x.f9.f1, .int .i64 x.f9.f2, .int .i64 x.f9.f3, v13], rfl, rfl, ⟨[.string x.f1], [.string x.f2, .string x.f3, .string x.f4, .int .i64 x.f5, v6, .int .u64 x.f7, .int .u64 x.f8, .int .i64 x.f9.f0, .string x.f9.f1, .int .i64 x.f9.f2, .int .i64 x.f9.f3, v13], rfl, rfl, ⟨[.string x.f2], [.string x.f3, .string x.f4, .int .i64 x.f5, v6, .int .u64 x.f7, .int .u64 x.f8, .int .i64 x.f9.f0, .string x.f9.f1, .int .i64 x.f9.f2, .int .i64 x.f9.f3, v13], rfl, rfl, ⟨[.string x.f3], [.string x.f4, .int .i64 x.f5, v6, .int .u64 x.f7, .int .u64 x.f8, .int .i64 x.f9.f0, .string x.f9.f1, .int .i64 x.f9.f2, .int .i64 x.f9.f3, v13], rfl, rfl, ⟨[.string x.f4], [.int .i64 x.f5, v6, .int .u64 x.f7, .int .u64 x.f8, .int .i64 x.f9.f0, .string x.f9.f1, .int .i64 x.f9.f2, .int .i64 x.f9.f3, v13], rfl, rfl, ⟨[.int .i64 x.f5], [v6, .int .u64 x.f7, .int .u64 x.f8, .int .i64 x.f9.f0, .string x.f9.f1, .int .i64 x.f9.f2, .int .i64 x.f9.f3, v13], rfl, rfl, ⟨[v6], [.int .u64 x.f7, .int .u64 x.f8, .int .i64 x.f9.f0, .string x.f9.f1, .int .i64 x.f9.f2, .int .i64 x.f9.f3, v13], rfl, ⟨v6, rfl, g6⟩, ⟨[.int .u64 x.f7], [.int .u64 x.f8, .int .i64 x.f9.f0, .string x.f9.f1, .int .i64 x.f9.f2, .int .i64 x.f9.f3, v13], rfl, rfl, ⟨[.int .u64 x.f8], [.int .i64 x.f9.f0, .string x.f9.f1, .int .i64 x.f9.f2, .int .i64 x.f9.f3, v13], rfl, rfl, (k75_mkM w base ok x.f9 g13)⟩⟩⟩⟩⟩⟩⟩⟩⟩
theorem k77_openF {W : World} {ok : Nat → Prop} {x : S77} {cs : List Value} (h : Kd.FK k77 W ok x cs) : ∃ A6 c6 A13 c13, cs = [.int .i64 x.f0, .string x.f1, .string x.f2, .string x.f3, .string x.f4, .int .i64 x.f5, .slice A6 x.f6.length c6, .int .u64 x.f7, .int .u64 x.f8, .int .i64 x.f9.f0, .string x.f9.f1, .int .i64 x.f9.f2, .int .i64 x.f9.f3, .slice A13 x.f9.f4.length c13] ∧ x.f6.length ≤ c6 ∧ Kd.F (Kd.int .u8) W ok A6 x.f6.length x.f6 ∧ x.f9.f4.length ≤ c13 ∧ Kd.F k75 W ok A13 x.f9.f4.length x.f9.f4 := by
  obtain ⟨A6, c6, A13, c13, rfl, l6, _, l13, _⟩ := k77_open (Kd.FK_now h)
  exact ⟨A6, c6, A13, c13, rfl, l6, (fun W' hW => by obtain ⟨A6_, c6_, A13_, c13_, he, l6_, g6_, l13_, g13_⟩ := k77_open (h W' hW); injection (Option.some.inj (show some (Value.slice A6 x.f6.length c6) = some (Value.slice A6_ x.f6.length c6_) from congrArg (fun l => l[6]?) he)) with ha_ _ _; rw [ha_]; exact g6_), l13, (fun W' hW => by obtain ⟨A6_, c6_, A13_, c13_, he, l6_, g6_, l13_, g13_⟩ := k77_open (h W' hW); injection (Option.some.inj (show some (Value.slice A13 x.f9.f4.length c13) = some (Value.slice A13_ x.f9.f4.length c13_) from congrArg (fun l => l[13]?) he)) with ha_ _ _; rw [ha_]; exact g13_)⟩
theorem k77_mkF (W : World) (ok : Nat → Prop) (x : S77) {A6 : Option Addr} {c6 : Nat} (l6 : x.f6.length ≤ c6) (g6 : Kd.F (Kd.int .u8) W ok A6 x.f6.length x.f6) {A13 : Option Addr} {c13 : Nat} (l13 : x.f9.f4.length ≤ c13) (g13 : Kd.F k75 W ok A13 x.f9.f4.length x.f9.f4) : Kd.FK k77 W ok x [.int .i64 x.f0, .string x.f1, .string x.f2, .string x.f3, .string x.f4, .int .i64 x.f5, .slice A6 x.f6.length c6, .int .u64 x.f7, .int .u64 x.f8, .int .i64 x.f9.f0, .string x.f9.f1, .int .i64 x.f9.f2, .int .i64 x.f9.f3, .slice A13 x.f9.f4.length c13] := fun W2 hW => k77_mk W2 x l6 (g6 W2 hW) l13 (g13 W2 hW)
def rd_T77 (xs : List S77) (i : Int) : S77 := xs.getD i.toNat z77
theorem at_T77 {w : World} {A : Option Addr} {n : Nat} {xs : List S77} (h : Kd.C k77 w A n xs) (i : Int) (h0 : 0 ≤ i) (h1 : i < n) : ∃ ad A6 c6 A13 c13, A = some ad ∧ w.cell? (ad.add (i.toNat * 14)) = some (.int .i64 (rd_T77 xs i).f0) ∧ w.cell? ⟨(ad.add (i.toNat * 14)).block, (ad.add (i.toNat * 14)).off + 1, none⟩ = some (.string (rd_T77 xs i).f1) ∧ w.cell? ⟨(ad.add (i.toNat * 14)).block, (ad.add (i.toNat * 14)).off + 2, none⟩ = some (.string (rd_T77 xs i).f2) ∧ w.cell? ⟨(ad.add (i.toNat * 14)).block, (ad.add (i.toNat * 14)).off + 3, none⟩ = some (.string (rd_T77 xs i).f3) ∧ w.cell? ⟨(ad.add (i.toNat * 14)).block, (ad.add (i.toNat * 14)).off + 4, none⟩ = some (.string (rd_T77 xs i).f4) ∧ w.cell? ⟨(ad.add (i.toNat * 14)).block, (ad.add (i.toNat * 14)).off + 5, none⟩ = some (.int .i64 (rd_T77 xs i).f5) ∧ w.cell? ⟨(ad.add (i.toNat * 14)).block, (ad.add (i.toNat * 14)).off + 6, none⟩ = some (.slice A6 (rd_T77 xs i).f6.length c6) ∧ w.cell? ⟨(ad.add (i.toNat * 14)).block, (ad.add (i.toNat * 14)).off + 7, none⟩ = some (.int .u64 (rd_T77 xs i).f7) ∧ w.cell? ⟨(ad.add (i.toNat * 14)).block, (ad.add (i.toNat * 14)).off + 8, none⟩ = some (.int .u64 (rd_T77 xs i).f8) ∧ w.cell? ⟨(ad.add (i.toNat * 14)).block, (ad.add (i.toNat * 14)).off + 9, none⟩ = some (.int .i64 (rd_T77 xs i).f9.f0) ∧ w.cell? ⟨(ad.add (i.toNat * 14)).block, (ad.add (i.toNat * 14)).off + 10, none⟩ = some (.string (rd_T77 xs i).f9.f1) ∧ w.cell? ⟨(ad.add (i.toNat * 14)).block, (ad.add (i.toNat * 14)).off + 11, none⟩ = some (.int .i64 (rd_T77 xs i).f9.f2) ∧ w.cell? ⟨(ad.add (i.toNat * 14)).block, (ad.add (i.toNat * 14)).off + 12, none⟩ = some (.int .i64 (rd_T77 xs i).f9.f3) ∧ w.cell? ⟨(ad.add (i.toNat * 14)).block, (ad.add (i.toNat * 14)).off + 13, none⟩ = some (.slice A13 (rd_T77 xs i).f9.f4.length c13) ∧ (rd_T77 xs i).f6.length ≤ c6 ∧ (Kd.int .u8).C w A6 (rd_T77 xs i).f6.length (rd_T77 xs i).f6 ∧ (rd_T77 xs i).f9.f4.length ≤ c13 ∧ k75.C w A13 (rd_T77 xs i).f9.f4.length (rd_T77 xs i).f9.f4 := by
  obtain ⟨ad, c, e, _, hK, hc0⟩ := Kd.C_get h z77 i h0 h1
  have hc : ∀ j u, c[j]? = some u → w.cell? (ad.add (i.toNat * 14 + j)) = some u := hc0
  obtain ⟨A6, c6, A13, c13, rfl, l6, g6, l13, g13⟩ := k77_open hK
  exact ⟨ad, A6, c6, A13, c13, e, hc 0 _ rfl, by rw [← add_field _ _ 1 (by omega)]; exact hc 1 _ rfl, by rw [← add_field _ _ 2 (by omega)]; exact hc 2 _ rfl, by rw [← add_field _ _ 3 (by omega)]; exact hc 3 _ rfl, by rw [← add_field _ _ 4 (by omega)]; exact hc 4 _ rfl, by rw [← add_field _ _ 5 (by omega)]; exact hc 5 _ rfl, by rw [← add_field _ _ 6 (by omega)]; exact hc 6 _ rfl, by rw [← add_field _ _ 7 (by omega)]; exact hc 7 _ rfl, by rw [← add_field _ _ 8 (by omega)]; exact hc 8 _ rfl, by rw [← add_field _ _ 9 (by omega)]; exact hc 9 _ rfl, by rw [← add_field _ _ 10 (by omega)]; exact hc 10 _ rfl, by rw [← add_field _ _ 11 (by omega)]; exact hc 11 _ rfl, by rw [← add_field _ _ 12 (by omega)]; exact hc 12 _ rfl, by rw [← add_field _ _ 13 (by omega)]; exact hc 13 _ rfl, l6, g6, l13, g13⟩

end Go.Proofs.Ytobljmgoengofaa.PZ
