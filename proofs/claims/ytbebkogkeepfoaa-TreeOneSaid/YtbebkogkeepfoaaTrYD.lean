/- Own and printed texts, laid together. -/
import Derived.Test.YtbebkogkeepfoaaTrYC
import Derived.Deep.RegionLaw
import Derived.ChangeKeysEq
import Derived.StillTailTactics
import Derived.Great.BuildSlice
import Derived.Deep.WholeRow
import Derived.Deep.RegionWith
import Derived.ProofKit
import Derived.Deep.Slices
import Derived.Test.YtbebkogkeepfoaaProg
import Derived.Below
import Derived.Deep.Draws
import Derived.Deep.AppendLies
import Derived.Maps.AppendAt
import Derived.OwnWalk
import Derived.Laws.BytesArg
import Derived.Laws.MakeOwn
import Derived.Laws.OwnMore
import Derived.Deep.OwnRows
import Derived.Tactics
import Derived.Lib.ConvBytes
import Derived.Laws.Slices
import Derived.WalkKit
import Derived.KernelRfl
import Derived.RowKit3
import Derived.Deep.LoopGhost
import Derived.Deep.QuietTactic
import Derived.BigQuiet
import Derived.WideLaws
import Derived.Deep.DeepCutAuto
import Derived.Deep.CutBlock
import Derived.Deep.RegionHeld3
import Derived.Laws.Rows
import Derived.Lib.AppendStr
import Derived.ArgAppend
import Derived.Laws.IdiomCopy
import Derived.OrdersHeld
import Derived.Laws.BitsLemmas
import Derived.RowKit
import Derived.Test.YtbebkogkeepfoaaTrYA
import Derived.StillTactics
import Derived.Deep.MidRow
import Derived.WideShapes
import Derived.Test.YtbebkogkeepfoaaTrYB
/- sha: Hex walked. -/
namespace Go.Proofs.Ytbebkogkeepfoaa.Sha
set_option linter.unusedVariables false
open Go.RowKit Go.Proofs.Ytbebkogkeepfoaa.Base Go.Proofs.Ytbebkogkeepfoaa.ShaPlain Go.Proofs.Ytbebkogkeepfoaa.Aid Go.Proofs.YtbebkogkeepfoaaW.PrintWords Go.Proofs.YtbebkogkeepfoaaW.PrintLast Go.Proofs.YtbebkogkeepfoaaW.PrintMore
end Go.Proofs.Ytbebkogkeepfoaa.Sha
/- The sums of the page's examples. -/
namespace Go.Proofs.Ytbebkogkeepfoaa.Sha
open Go.RowKit Go.Proofs.Ytbebkogkeepfoaa.Base Go.Proofs.Ytbebkogkeepfoaa.ShaPlain
set_option maxRecDepth 100000
end Go.Proofs.Ytbebkogkeepfoaa.Sha
/- The example of layer 2. -/
namespace Go.Proofs.Ytbebkogkeepfoaa.Sha
set_option linter.unusedVariables false
open Go.RowKit Go.Proofs.Ytbebkogkeepfoaa.Base Go.Proofs.Ytbebkogkeepfoaa.ShaPlain Go.Proofs.Ytbebkogkeepfoaa.Aid Go.Proofs.YtbebkogkeepfoaaW.PrintWords Go.Proofs.YtbebkogkeepfoaaW.PrintLast Go.Proofs.YtbebkogkeepfoaaW.PrintMore
/-- Rows that were written out in memory. -/
theorem lit_rr {w : World} {g T : Nat} {cells : Array Value} (hg : w.heap[g]? = some (.cells cells T (0, 0))) (xs : List (List Int)) (hm : xs.length ≤ 9223372036854775807)
    (hi : ∀ (j : Nat) (l : List Int), xs[j]? = some l → ∃ A c, cells[j]? = some (Value.slice A l.length c) ∧ l.length ≤ c ∧ Rb w A l) : Rr w (some ⟨g, 0, none⟩) xs := by
  refine ⟨rfl, hm, fun _ => ⟨_, rfl, fun j l hj => ?_⟩⟩
  obtain ⟨A, c, h1, h2, h3⟩ := hi j l hj
  refine ⟨[.slice A l.length c], rfl, ⟨A, c, rfl, h2, h3⟩, fun i u hu => ?_⟩
  have hi0 : i = 0 := by
    have := (List.getElem?_eq_some_iff.1 hu).1
    simp at this
    exact this
  subst hi0
  rw [show j * (Kd.slice 5 (Kd.int .u8)).sz + 0 = j from by show j * 1 + 0 = j; omega, add_plain, blk_cell hg, h1]
  exact hu
end Go.Proofs.Ytbebkogkeepfoaa.Sha
/- Whether two sums are the same. -/
namespace Go.Proofs.Ytbebkogkeepfoaa.Sha
set_option linter.unusedVariables false
open Go.RowKit Go.Proofs.Ytbebkogkeepfoaa.Base Go.Proofs.Ytbebkogkeepfoaa.ShaPlain Go.Proofs.Ytbebkogkeepfoaa.Aid Go.Proofs.YtbebkogkeepfoaaW.PrintWords Go.Proofs.YtbebkogkeepfoaaW.PrintLast Go.Proofs.YtbebkogkeepfoaaW.PrintMore
theorem cells_u8 : Try.prog.cellsOf 5 = 1 := by kernel_rfl
theorem plain_u8 : Try.prog.plainKey 5 = true := by kernel_rfl
theorem guard_32 : Try.prog.eqGuardType Try.prog.depth 24 = false := by kernel_rfl
/-- A sum's value. -/
abbrev sumV (a : List Int) : Value := .agg (nums .u8 a).toArray
theorem nums_get (a : List Int) (i : Nat) (hi : i < a.length) : (nums .u8 a).toArray[i]? = some (.int .u8 (a.getD i 0)) := by
  simp [nums, List.getElem?_eq_getElem hi, List.getD_eq_getElem?_getD]
theorem run_items (d : Nat) (a b : List Int) (w : World) : ∀ is : List Nat, (∀ i ∈ is, i < a.length ∧ i < b.length) →
    (Op.eqItems (d + 1) 5 1 (nums .u8 a).toArray (nums .u8 b).toArray is).run Try.prog w = .ok (is.all fun i => a.getD i 0 == b.getD i 0) w := by
  intro is
  induction is with
  | nil => intro _; simp [Op.eqItems]
  | cons i is ih =>
    intro h
    have hi := h i (List.mem_cons_self ..)
    have p1 := run_part_plain (P := Try.prog) (w := w) (e := 5) plain_u8 (nums_get a i hi.1)
    have p2 := run_part_plain (P := Try.prog) (w := w) (e := 5) plain_u8 (nums_get b i hi.2)
    have p3 := run_equalIn_int (P := Try.prog) w d 5 .u8 .u8 (a.getD i 0) (b.getD i 0) Try.underlying5
    have ih' := ih (fun j hj => h j (List.mem_cons_of_mem _ hj))
    simp only [Op.eqItems, Sem.run_bind, Nat.mul_one, p1, p2, p3, Result.andThen_ok, List.all_cons]
    cases e : (a.getD i 0 == b.getD i 0) with
    | false => simp
    | true => simpa using ih'
theorem all_range (a b : List Int) (ha : a.length = 32) (hb : b.length = 32) : ((List.range 32).all fun i => a.getD i 0 == b.getD i 0) = decide (a = b) := by
  rw [Bool.eq_iff_iff, List.all_eq_true, decide_eq_true_eq]
  constructor
  · intro h
    apply List.ext_getElem (by omega)
    intro i h1 h2
    have := h i (List.mem_range.2 (by omega))
    simp only [beq_iff_eq, List.getD_eq_getElem?_getD, List.getElem?_eq_getElem h1, List.getElem?_eq_getElem h2] at this
    exact this
  · rintro rfl i _
    simp
theorem run_eq_sum (a b : List Int) (ha : a.length = 32) (hb : b.length = 32) (w : World) : (Op.equalIn 10000 24 (sumV a) (sumV b)).run Try.prog w = .ok (decide (a = b)) w := by
  obtain ⟨i, hi⟩ := info_of_underlying Try.underlying5
  have h := run_equalIn_array (P := Try.prog) w 9999 (nums .u8 a).toArray (nums .u8 b).toArray Try.underlying24 hi
  rw [h, cells_u8, run_items 9998 a b w (List.range 32) (fun i hi => by have := List.mem_range.1 hi; omega), all_range a b ha hb]
end Go.Proofs.Ytbebkogkeepfoaa.Sha
/- ShaParts: the law's walk. -/
namespace Go.Proofs.Ytbebkogkeepfoaa.Sha
set_option linter.unusedVariables false
open Go.RowKit Go.Proofs.Ytbebkogkeepfoaa.Base Go.Proofs.Ytbebkogkeepfoaa.ShaPlain Go.Proofs.Ytbebkogkeepfoaa.Aid Go.Proofs.YtbebkogkeepfoaaW.PrintWords Go.Proofs.YtbebkogkeepfoaaW.PrintLast Go.Proofs.YtbebkogkeepfoaaW.PrintMore
theorem byte_wf {x : Int} (h : (Lit.int .u8 x).wf = true) : 0 ≤ x ∧ x ≤ 255 := by
  simp only [Lit.wf, IntKind.min, IntKind.max, IntKind.signed, IntKind.bits, Bool.and_eq_true] at h
  have h1 := of_decide_eq_true h.1
  have h2 := of_decide_eq_true h.2
  simp at h1 h2
  omega
end Go.Proofs.Ytbebkogkeepfoaa.Sha
/- Words turned to the right, as regions that draw ask it. -/
namespace Go.Proofs.Ytbebkogkeepfoaa.Sha
set_option linter.unusedVariables false
open Go.RowKit Go.Proofs.Ytbebkogkeepfoaa.Base Go.Proofs.Ytbebkogkeepfoaa.ShaPlain Go.Proofs.YtbebkogkeepfoaaW.PrintWords Go.Proofs.YtbebkogkeepfoaaW.PrintLast Go.Proofs.YtbebkogkeepfoaaW.PrintMore
theorem turnq_2 (x : Int) (w : World) (m : Nat) (h : 0 ≤ x ∧ x ≤ 4294967295) : Calls Try.prog 69 #[.int .u32 x, .int .u64 2] (w.drewN m) fun e w'' => e = .returned (.int .u32 (rot 4 1073741824 x)) ∧ ∃ m', w'' = w.drewN m' :=
  (turn_2 x _ h.1 h.2).mono fun _ _ ⟨he, hw⟩ => ⟨he, m, hw.symm⟩
theorem turnq_6 (x : Int) (w : World) (m : Nat) (h : 0 ≤ x ∧ x ≤ 4294967295) : Calls Try.prog 69 #[.int .u32 x, .int .u64 6] (w.drewN m) fun e w'' => e = .returned (.int .u32 (rot 64 67108864 x)) ∧ ∃ m', w'' = w.drewN m' :=
  (turn_6 x _ h.1 h.2).mono fun _ _ ⟨he, hw⟩ => ⟨he, m, hw.symm⟩
theorem turnw_7 (x : Int) (w : World) (h : 0 ≤ x ∧ x ≤ 4294967295) : Calls Try.prog 69 #[.int .u32 x, .int .u64 7] w fun e w'' => e = .returned (.int .u32 (rot 128 33554432 x)) ∧ w'' = w :=
  (turn_7 x _ h.1 h.2).mono fun _ _ ⟨he, hw⟩ => ⟨he, hw.symm⟩
theorem turnq_11 (x : Int) (w : World) (m : Nat) (h : 0 ≤ x ∧ x ≤ 4294967295) : Calls Try.prog 69 #[.int .u32 x, .int .u64 11] (w.drewN m) fun e w'' => e = .returned (.int .u32 (rot 2048 2097152 x)) ∧ ∃ m', w'' = w.drewN m' :=
  (turn_11 x _ h.1 h.2).mono fun _ _ ⟨he, hw⟩ => ⟨he, m, hw.symm⟩
theorem turnq_13 (x : Int) (w : World) (m : Nat) (h : 0 ≤ x ∧ x ≤ 4294967295) : Calls Try.prog 69 #[.int .u32 x, .int .u64 13] (w.drewN m) fun e w'' => e = .returned (.int .u32 (rot 8192 524288 x)) ∧ ∃ m', w'' = w.drewN m' :=
  (turn_13 x _ h.1 h.2).mono fun _ _ ⟨he, hw⟩ => ⟨he, m, hw.symm⟩
theorem turnw_17 (x : Int) (w : World) (h : 0 ≤ x ∧ x ≤ 4294967295) : Calls Try.prog 69 #[.int .u32 x, .int .u64 17] w fun e w'' => e = .returned (.int .u32 (rot 131072 32768 x)) ∧ w'' = w :=
  (turn_17 x _ h.1 h.2).mono fun _ _ ⟨he, hw⟩ => ⟨he, hw.symm⟩
theorem turnw_18 (x : Int) (w : World) (h : 0 ≤ x ∧ x ≤ 4294967295) : Calls Try.prog 69 #[.int .u32 x, .int .u64 18] w fun e w'' => e = .returned (.int .u32 (rot 262144 16384 x)) ∧ w'' = w :=
  (turn_18 x _ h.1 h.2).mono fun _ _ ⟨he, hw⟩ => ⟨he, hw.symm⟩
theorem turnw_19 (x : Int) (w : World) (h : 0 ≤ x ∧ x ≤ 4294967295) : Calls Try.prog 69 #[.int .u32 x, .int .u64 19] w fun e w'' => e = .returned (.int .u32 (rot 524288 8192 x)) ∧ w'' = w :=
  (turn_19 x _ h.1 h.2).mono fun _ _ ⟨he, hw⟩ => ⟨he, hw.symm⟩
theorem turnq_22 (x : Int) (w : World) (m : Nat) (h : 0 ≤ x ∧ x ≤ 4294967295) : Calls Try.prog 69 #[.int .u32 x, .int .u64 22] (w.drewN m) fun e w'' => e = .returned (.int .u32 (rot 4194304 1024 x)) ∧ ∃ m', w'' = w.drewN m' :=
  (turn_22 x _ h.1 h.2).mono fun _ _ ⟨he, hw⟩ => ⟨he, m, hw.symm⟩
theorem turnq_25 (x : Int) (w : World) (m : Nat) (h : 0 ≤ x ∧ x ≤ 4294967295) : Calls Try.prog 69 #[.int .u32 x, .int .u64 25] (w.drewN m) fun e w'' => e = .returned (.int .u32 (rot 33554432 128 x)) ∧ ∃ m', w'' = w.drewN m' :=
  (turn_25 x _ h.1 h.2).mono fun _ _ ⟨he, hw⟩ => ⟨he, m, hw.symm⟩
end Go.Proofs.Ytbebkogkeepfoaa.Sha
/- The document's keys walked. -/
namespace Go.Proofs.Ytbebkogkeepfoaa.Sha
set_option linter.unusedVariables false
open Go.RowKit Go.Proofs.Ytbebkogkeepfoaa.Base Go.Proofs.Ytbebkogkeepfoaa.ShaPlain Go.Proofs.Ytbebkogkeepfoaa.Aid Go.Proofs.YtbebkogkeepfoaaW.PrintWords Go.Proofs.YtbebkogkeepfoaaW.PrintLast Go.Proofs.YtbebkogkeepfoaaW.PrintMore
theorem info_64 : (Try.prog.info? 89).map (·.size) = some 64 := by kernel_rfl
theorem info_8 : (Try.prog.info? 36).map (·.size) = some 8 := by kernel_rfl
abbrev wordsV (l : List Int) : Value := .agg (nums .u32 l).toArray
set_option maxHeartbeats 4000000 in
set_option maxRecDepth 100000 in
theorem keys_c (w : World) : Calls Try.prog 68 #[] w fun e w' => e = .returned (wordsV keys) ∧ Below w.heap.size w w' := by
  obtain ⟨D, hD⟩ : ∃ D, (nums .u32 keys).toArray = D := ⟨_, rfl⟩
  have hds : D.size = 64 := by rw [← hD]; rfl
  have HI := Aside0.mk (show (Try.prog.info? 89).map (·.size) = some D.size by rw [hds]; exact info_64)
  have HONE := Aside0.mk (show D.all (·.oneCell') = true by rw [← hD]; exact nums_one _ _)
  have HS := Aside0.mk (show (64 : Nat) = D.size from hds.symm)
  have HD := Aside0.mk hD
  clear hD hds
  go_enter Try.func68, Try.ntmps68
  go_wp2_with ((with_reducible refine gate_store (t := 89) (p := 0) (v := .tmp 1) rfl ?_); go_must (refine wpList_store_row rfl 89 (.tmp 0) (.tmp 1) rfl w.heap.size D rfl (by rw [← HD.out]; rfl) 89 _ (by exact blk_new _ _) HI.out (by exact HS.out) HONE.out ?_); rw [World.setRow_alloc_new])
  refine bodyPost_ret (v := .agg D) (results_cell_row rfl _ _ w.heap.size 89 D (0, 0) _ rfl (blk_new w _) Try.underlying89 rfl HI.out) rfl ⟨by rw [← HD.out], below_alloc (Below.refl _ _) _⟩
end Go.Proofs.Ytbebkogkeepfoaa.Sha
/- The document's words of a block walked. -/
namespace Go.Proofs.Ytbebkogkeepfoaa.Sha
set_option linter.unusedVariables false
open Go.RowKit Go.Proofs.Ytbebkogkeepfoaa.Base Go.Proofs.Ytbebkogkeepfoaa.ShaPlain Go.Proofs.Ytbebkogkeepfoaa.Aid Go.Proofs.YtbebkogkeepfoaaW.PrintWords Go.Proofs.YtbebkogkeepfoaaW.PrintLast Go.Proofs.YtbebkogkeepfoaaW.PrintMore
theorem second_new' (w : World) (Z o : Obj) : ((w.alloc Z).alloc o).heap[w.heap.size + 1]? = some o := by
  have h := blk_new (w.alloc Z) o
  simpa using h
theorem add_pos (ad : Addr) (n : Nat) (h : 0 < n) : ad.add n = ⟨ad.block, ad.off + n, none⟩ := by
  have := add_field ad 0 n h
  rw [Nat.zero_add] at this
  rw [this]
  have e : ad.add 0 = ad := by unfold Addr.add; simp
  rw [e]
def zeros64 : Array Value := (nums .u32 (List.replicate 64 0)).toArray
/-- The words under way: the variable (block p), and the answer's cells. -/
def RInv (w : World) (b : List Int) (k : Nat) (wr : World) : Prop := Words wr (w.heap.size + 1) 89 (fill b k) ∧ wr.heap[w.heap.size]? = some (.cells zeros64 89 (0, 0)) ∧ Below w.heap.size w wr
theorem RInv.next {w : World} {b : List Int} {k : Nat} {wr : World} (h : RInv w b k wr) {v : Int} (hv : v = ShaPlain.next b (fill b k) k) : RInv w b (k + 1) (wr.drew.setCell ⟨w.heap.size + 1, k, none⟩ (.int .u32 v)) := by
  subst hv
  refine ⟨Words.set (w := wr.drew) h.1 k _, ?_, below_set (below_drew1 h.2.2) (by omega)⟩
  exact (Below.heap_setCell wr.drew ⟨w.heap.size + 1, k, none⟩ _ w.heap.size (by show w.heap.size ≠ w.heap.size + 1; omega)).trans h.2.1
theorem at_byte {w : World} {A : Option Addr} {b : List Int} (h : Rb w A b) (i : Nat) (hi : i < b.length) : ∃ ad, A = some ad ∧ w.cell? (ad.add i) = some (.int .u8 (b.getD i 0)) := by
  obtain ⟨ad, hA, hc⟩ := Kd.at_int h i (by omega) (by omega)
  exact ⟨ad, hA, by rw [Int.toNat_natCast] at hc; rw [hc]; simp [rd]⟩
set_option maxHeartbeats 8000000 in
set_option maxRecDepth 100000 in
theorem words_c (A : Option Addr) (c : Nat) (b : List Int) (w : World) (hr : Rb w A b) (hc : 64 ≤ c) (hl : b.length = 64) (hu : ∀ j, j < 64 → 0 ≤ b.getD j 0 ∧ b.getD j 0 ≤ 255) :
    Calls Try.prog 67 #[.slice A 64 c] w fun e w' => e = .returned (wordsV (fill b 64)) ∧ Below w.heap.size w w' := by
  obtain ⟨ad, rfl, _⟩ := at_byte hr 0 (by omega)
  have HR := Aside0.mk hr
  have HL := Aside0.mk hl
  have HU := Aside0.mk hu
  clear hr hl hu
  have H0 := Aside0.mk (show RInv w b 0 ((w.alloc (.cells zeros64 89)).alloc (.cells zeros64 89)) from ⟨second_new' _ _ _, blk_alloc (blk_new _ _) _, below_alloc (below_alloc (Below.refl _ _) _) _⟩)
  go_enter Try.func67, Try.ntmps67
  go_wp2
  go_loopw [4, 5, 6] (fun i _ _ wr => ∃ k : Nat, k ≤ 64 ∧ i = .int .i64 k ∧ RInv w b k wr) (fun i _ _ _ => 64 - (intOf i).toNat)
  case atStart => exact ⟨0, by omega, rfl, H0.out⟩
  case round =>
    clear H0
    obtain ⟨k, hk, rfl, hinv⟩ := hrel
    have HI := Aside0.mk hinv
    by_cases hlt : k < 64
    · by_cases h16 : k < 16
      · have hc : ∀ i, i < 64 → wr.cell? (ad.add i) = some (.int .u8 (b.getD i 0)) := fun i hi => by
          obtain ⟨ad', e, h⟩ := at_byte (Kd.C_below HR.out hinv.2.2) i (by rw [HL.out]; exact hi)
          injection e with e
          subst e
          exact h
        have hf : wr.drew.frozen? ⟨w.heap.size + 1, k, none⟩ = false := hinv.1.free k
        have hd : wr.drew.cell? ⟨w.heap.size + 1, k, none⟩ = some (.int .u32 ((fill b k).getD k 0)) := hinv.1.cell k (by rw [fill_len]; omega)
        obtain ⟨x0, hx0⟩ : ∃ x, b.getD (4 * k) 0 = x := ⟨_, rfl⟩
        obtain ⟨x1, hx1⟩ : ∃ x, b.getD (4 * k + 1) 0 = x := ⟨_, rfl⟩
        obtain ⟨x2, hx2⟩ : ∃ x, b.getD (4 * k + 2) 0 = x := ⟨_, rfl⟩
        obtain ⟨x3, hx3⟩ : ∃ x, b.getD (4 * k + 3) 0 = x := ⟨_, rfl⟩
        obtain ⟨old, hold⟩ : ∃ x, (fill b k).getD k 0 = x := ⟨_, rfl⟩
        have c0 := hc (4 * k) (by omega)
        have c1 := hc (4 * k + 1) (by omega)
        have c2 := hc (4 * k + 2) (by omega)
        have c3 := hc (4 * k + 3) (by omega)
        have HV := Aside0.mk (show bits .or .u32 (bits .or .u32 (bits .or .u32 (IntKind.u32.wrap (IntKind.u32.wrap x0 * 16777216)) (IntKind.u32.wrap (IntKind.u32.wrap x1 * 65536))) (IntKind.u32.wrap (IntKind.u32.wrap x2 * 256))) (IntKind.u32.wrap x3) = ShaPlain.next b (fill b k) k by
          rw [word4_eq (hx0 ▸ HU.out _ (by omega)) (hx1 ▸ HU.out _ (by omega)) (hx2 ▸ HU.out _ (by omega)) (hx3 ▸ HU.out _ (by omega)), ShaPlain.next, if_pos h16, hx0, hx1, hx2, hx3])
        rw [hx0] at c0
        rw [hx1] at c1
        rw [hx2] at c2
        rw [hx3] at c3
        rw [hold] at hd
        rw [add_pos _ _ (by omega)] at c1 c2 c3
        clear hc hx0 hx1 hx2 hx3 hold hinv
        have e0 : IntKind.i64.wrap (4 * (k : Int)) = 4 * (k : Int) := IntWalk.i64_in _ (by omega)
        have t0 : (4 * (k : Int)).toNat = 4 * k := by omega
        have g0 : (0 : Int) ≤ 4 * (k : Int) := by omega
        have f0 : 4 * (k : Int) < 64 := by omega
        have e1 : IntKind.i64.wrap (4 * (k : Int) + 1) = 4 * (k : Int) + 1 := IntWalk.i64_in _ (by omega)
        have t1 : (4 * (k : Int) + 1).toNat = 4 * k + 1 := by omega
        have g1 : (0 : Int) ≤ 4 * (k : Int) + 1 := by omega
        have f1 : 4 * (k : Int) + 1 < 64 := by omega
        have e2 : IntKind.i64.wrap (4 * (k : Int) + 2) = 4 * (k : Int) + 2 := IntWalk.i64_in _ (by omega)
        have t2 : (4 * (k : Int) + 2).toNat = 4 * k + 2 := by omega
        have g2 : (0 : Int) ≤ 4 * (k : Int) + 2 := by omega
        have f2 : 4 * (k : Int) + 2 < 64 := by omega
        have e3 : IntKind.i64.wrap (4 * (k : Int) + 3) = 4 * (k : Int) + 3 := IntWalk.i64_in _ (by omega)
        have t3 : (4 * (k : Int) + 3).toNat = 4 * k + 3 := by omega
        have g3 : (0 : Int) ≤ 4 * (k : Int) + 3 := by omega
        have f3 : 4 * (k : Int) + 3 < 64 := by omega
        have g4 : (0 : Int) ≤ (k : Int) := by omega
        have f4 : (k : Int) < 64 := by omega
        have hk16 : (k : Int) < 16 := by omega
        go_wp2
        go_still_tail 35, (by kernel_rfl)
        change wpList _ _ _ _ _ wr.drew
        obtain ⟨w2, hw2⟩ : ∃ w2, wr.drew = w2 := ⟨_, rfl⟩
        have HW := Aside0.mk hw2
        rw [hw2] at hf hd ⊢
        clear hw2 e0 e1 e2 e3 t0 t1 t2 t3 g0 g1 g2 g3 f0 f1 f2 f3
        go_wp2
        go_roundw
        case rel => exact ⟨k + 1, by omega, by go_num, by rw [← HW.out]; exact HI.out.next HV.out⟩
        case measure => simp [intOf]; omega
      · have hU := fun j => (fill_u32 b k).at j
        have hcw : ∀ j, j < 64 → wr.cell? ⟨w.heap.size + 1, j, none⟩ = some (.int .u32 ((fill b k).getD j 0)) := fun j hj => hinv.1.cell j (by rw [fill_len]; omega)
        have hk16 : 16 ≤ k := by omega
        have hd := hcw k (by omega)
        have c15 := hcw (k - 15) (by omega)
        have c2 := hcw (k - 2) (by omega)
        have c16 := hcw (k - 16) (by omega)
        have c7 := hcw (k - 7) (by omega)
        obtain ⟨x15, hx15⟩ : ∃ x, (fill b k).getD (k - 15) 0 = x := ⟨_, rfl⟩
        obtain ⟨x2, hx2⟩ : ∃ x, (fill b k).getD (k - 2) 0 = x := ⟨_, rfl⟩
        obtain ⟨x16, hx16⟩ : ∃ x, (fill b k).getD (k - 16) 0 = x := ⟨_, rfl⟩
        obtain ⟨x7, hx7⟩ : ∃ x, (fill b k).getD (k - 7) 0 = x := ⟨_, rfl⟩
        obtain ⟨old, hold⟩ : ∃ x, (fill b k).getD k 0 = x := ⟨_, rfl⟩
        have r15 := hU (k - 15)
        have r2 := hU (k - 2)
        rw [hx15] at c15 r15
        rw [hx2] at c2 r2
        rw [hx16] at c16
        rw [hx7] at c7
        rw [hold] at hd
        have HR15 := Aside0.mk r15
        have HR2 := Aside0.mk r2
        have HV := Aside0.mk (show ∀ X, X = (high x2 + x7 + low x15 + x16) % 4294967296 → X = ShaPlain.next b (fill b k) k by
          intro X hX
          rw [ShaPlain.next, if_neg (by omega), hx15, hx2, hx16, hx7, m32, hX]
          congr 1
          omega)
        clear hcw hU hx15 hx2 hx16 hx7 hold hinv r15 r2 h16
        have e2 : IntKind.i64.wrap ((k : Int) - 2) = (k : Int) - 2 := IntWalk.i64_in _ (by omega)
        have t2 : ((k : Int) - 2).toNat = k - 2 := by omega
        have g2 : (0 : Int) ≤ (k : Int) - 2 := by omega
        have f2 : (k : Int) - 2 < 64 := by omega
        have e7 : IntKind.i64.wrap ((k : Int) - 7) = (k : Int) - 7 := IntWalk.i64_in _ (by omega)
        have t7 : ((k : Int) - 7).toNat = k - 7 := by omega
        have g7 : (0 : Int) ≤ (k : Int) - 7 := by omega
        have f7 : (k : Int) - 7 < 64 := by omega
        have e15 : IntKind.i64.wrap ((k : Int) - 15) = (k : Int) - 15 := IntWalk.i64_in _ (by omega)
        have t15 : ((k : Int) - 15).toNat = k - 15 := by omega
        have g15 : (0 : Int) ≤ (k : Int) - 15 := by omega
        have f15 : (k : Int) - 15 < 64 := by omega
        have e16 : IntKind.i64.wrap ((k : Int) - 16) = (k : Int) - 16 := IntWalk.i64_in _ (by omega)
        have t16 : ((k : Int) - 16).toNat = k - 16 := by omega
        have g16 : (0 : Int) ≤ (k : Int) - 16 := by omega
        have f16 : (k : Int) - 16 < 64 := by omega
        have g4 : (0 : Int) ≤ (k : Int) := by omega
        have f4 : (k : Int) < 64 := by omega
        have hdk16 : decide ((k : Int) < 16) = false := decide_eq_false (by omega)
        go_wp2
        clear hdk16
        go_quiet (fail)
        have HI2 := Aside0.mk (show RInv w b k (wr.drewN nq) from ⟨HI.out.1, HI.out.2.1, pw_below_drewN HI.out.2.2 nq⟩)
        have hf' : (wr.drewN nq).drew.frozen? ⟨w.heap.size + 1, k, none⟩ = false := HI.out.1.free k
        have hd' : (wr.drewN nq).drew.cell? ⟨w.heap.size + 1, k, none⟩ = some (.int .u32 old) := hd
        have c16' : (wr.drewN nq).cell? ⟨w.heap.size + 1, k - 16, none⟩ = some (.int .u32 x16) := c16
        have c7' : (wr.drewN nq).cell? ⟨w.heap.size + 1, k - 7, none⟩ = some (.int .u32 x7) := c7
        clear c15 c2 c16 c7 hd HI
        revert HI2 hf' hd' c16' c7'
        generalize wr.drewN nq = wq
        intro HI2 hf hd c16 c7
        have h16 : (16 : Int) ≤ (k : Int) := by omega
        have l16 : (k : Int) < 64 + 16 := by omega
        have h7 : (7 : Int) ≤ (k : Int) := by omega
        have l7 : (k : Int) < 64 + 7 := by omega
        go_wp2_with (fail)
        go_still_tail 29, (by kernel_rfl)
        still_call (turnw_17 x2 _ HR2.out)
        repeat still_step
        still_call (turnw_19 x2 _ HR2.out)
        repeat still_step
        still_call (turnw_7 x15 _ HR15.out)
        repeat still_step
        still_call (turnw_18 x15 _ HR15.out)
        repeat still_step
        try refine wpStill_nil ?_
        change wpList _ _ _ _ _ wq.drew
        obtain ⟨w2, hw2⟩ : ∃ w2, wq.drew = w2 := ⟨_, rfl⟩
        have HW := Aside0.mk hw2
        rw [hw2] at hf hd ⊢
        clear hw2 e2 e7 e15 e16 t2 t7 t15 t16 g2 g7 g15 g16 f2 f7 f15 f16
        go_wp2
        go_roundw
        case rel => exact ⟨k + 1, by omega, by go_num, by rw [← HW.out]; exact HI2.out.next (HV.out _ rfl)⟩
        case measure => simp [intOf]; omega
    · have HK := Aside0.mk (show k = 64 by omega)
      have hge : 64 ≤ k := by omega
      obtain ⟨D, hD⟩ : ∃ D, (nums .u32 (fill b k)).toArray = D := ⟨_, rfl⟩
      have h3 := hinv.1
      unfold Words at h3
      rw [hD] at h3
      have H3 := Aside0.mk h3
      have H2 := Aside0.mk hinv.2.1
      have HB := Aside0.mk hinv.2.2
      have hds : D.size = 64 := by rw [← hD]; simp [nums, fill_len]
      have HZS := Aside0.mk (show zeros64.size = D.size by rw [hds]; simp [zeros64, nums])
      have HIF := Aside0.mk (show (Try.prog.info? 89).map (·.size) = some D.size by rw [hds]; exact info_64)
      have HONE := Aside0.mk (show D.all (·.oneCell') = true by rw [← hD]; exact nums_one _ _)
      have HFIN := Aside0.mk (show D = (nums .u32 (fill b 64)).toArray by rw [← hD, HK.out])
      clear hD hds h3 hinv hlt hk HI
      go_wp2_with (first
        | ((with_reducible refine gate_dst (N := 85) rfl ?_); refine wpList_load_row rfl 89 (.tmp 3) rfl (w.heap.size + 1) rfl 89 D (0, 0) _ H3.out Try.underlying89 rfl HIF.out ?_)
        | ((with_reducible refine gate_store (t := 89) (p := 2) (v := .tmp 85) rfl ?_); refine wpList_store_row rfl 89 (.tmp 2) (.tmp 85) rfl w.heap.size D rfl rfl 89 zeros64 H2.out HIF.out HZS.out HONE.out ?_))
      have HSR := setRow_heap wr w.heap.size zeros64 D _ _ H2.out
      refine bodyPost_ret (v := .agg D) (results_cell_row rfl _ _ w.heap.size 89 D (0, 0) _ rfl HSR Try.underlying89 rfl HIF.out) rfl ⟨by rw [HFIN.out], below_setRow HB.out (Nat.le_refl _) D⟩
end Go.Proofs.Ytbebkogkeepfoaa.Sha
/- The document's block walked. -/
namespace Go.Proofs.Ytbebkogkeepfoaa.Sha
set_option linter.unusedVariables false
open Go.RowKit Go.Proofs.Ytbebkogkeepfoaa.Base Go.Proofs.Ytbebkogkeepfoaa.ShaPlain Go.Proofs.Ytbebkogkeepfoaa.Aid Go.Proofs.YtbebkogkeepfoaaW.PrintWords Go.Proofs.YtbebkogkeepfoaaW.PrintLast Go.Proofs.YtbebkogkeepfoaaW.PrintMore
theorem row_other {w : World} {q g : Nat} {o : Obj} {cs : Array Value} (hb : w.heap[q]? = some o) (hne : q ≠ g) : (w.setRow g cs).heap[q]? = some o := (setRow_other w g q cs hne).trans hb
/-- The cells of block's variables: the state, the answer, the words, the keys (q, q + 1) and the eight words under way (p). -/
def KInv (w : World) (q p : Nat) (s ws v : List Int) (wr : World) : Prop :=
  Words wr w.heap.size 36 s ∧ Words wr (w.heap.size + 1) 36 (List.replicate 8 0) ∧ Words wr q 89 ws ∧ Words wr (q + 1) 89 keys ∧ Words wr p 36 v ∧ w.heap.size + 2 ≤ q ∧ q + 2 ≤ p ∧ Below w.heap.size w wr
theorem KInv.drewN {w wr : World} {q p : Nat} {s ws v : List Int} (h : KInv w q p s ws v wr) (m : Nat) : KInv w q p s ws v (wr.drewN m) := ⟨h.1, h.2.1, h.2.2.1, h.2.2.2.1, h.2.2.2.2.1, h.2.2.2.2.2.1, h.2.2.2.2.2.2.1, pw_below_drewN h.2.2.2.2.2.2.2 m⟩
theorem KInv.row {w wr : World} {q p : Nat} {s ws v v' : List Int} (h : KInv w q p s ws v wr) : KInv w q p s ws v' (wr.setRow p (nums .u32 v').toArray) := by
  obtain ⟨h1, h2, h3, h4, h5, h6, h7, h8⟩ := h
  exact ⟨row_other h1 (by omega), row_other h2 (by omega), row_other h3 (by omega), row_other h4 (by omega), setRow_heap _ _ _ _ _ _ h5, h6, h7, below_setRow h8 (by omega) _⟩
theorem KInv.set_s {w wr : World} {q p : Nat} {s ws v : List Int} (h : KInv w q p s ws v wr) (i : Nat) (x : Int) : KInv w q p (s.set i x) ws v (wr.setCell ⟨w.heap.size, i, none⟩ (.int .u32 x)) := by
  obtain ⟨h1, h2, h3, h4, h5, h6, h7, h8⟩ := h
  have hk : ∀ k o, wr.heap[k]? = some o → k ≠ w.heap.size → (wr.setCell ⟨w.heap.size, i, none⟩ (.int .u32 x)).heap[k]? = some o := fun k o ho hne => (Below.heap_setCell wr ⟨w.heap.size, i, none⟩ _ k hne).trans ho
  exact ⟨h1.set i x, hk _ _ h2 (by omega), hk _ _ h3 (by omega), hk _ _ h4 (by omega), hk _ _ h5 (by omega), h6, h7, below_set h8 (Nat.le_refl _)⟩
theorem KInv.next {w wr : World} {q p k : Nat} {s ws : List Int} {v0 v1 v2 v3 v4 v5 v6 v7 X Y : Int} (h : KInv w q p s ws [v0, v1, v2, v3, v4, v5, v6, v7] wr) (hr : rounds s ws (k + 1) = [X, v0, v1, v2, Y, v4, v5, v6]) :
    KInv w q p s ws (rounds s ws (k + 1)) (wr.setRow p #[.int .u32 X, .int .u32 v0, .int .u32 v1, .int .u32 v2, .int .u32 Y, .int .u32 v4, .int .u32 v5, .int .u32 v6]) := by
  rw [hr]
  exact h.row
def addN (s v : List Int) : Nat → List Int
  | 0 => s
  | j + 1 => (addN s v j).set j ((s.getD j 0 + v.getD j 0) % 4294967296)
theorem addN_len (s v : List Int) : ∀ j, (addN s v j).length = s.length
  | 0 => rfl
  | j + 1 => by rw [addN, List.length_set, addN_len s v j]
theorem addN_get (s v : List Int) : ∀ j i, j ≤ i → (addN s v j).getD i 0 = s.getD i 0
  | 0, _, _ => rfl
  | j + 1, i, h => by
    rw [addN, List.getD_eq_getElem?_getD, List.getElem?_set_ne (by omega), ← List.getD_eq_getElem?_getD]
    exact addN_get s v j i (by omega)
theorem addN_all {s v : List Int} (hs : s.length = 8) (hv : v.length = 8) : addN s v 8 = List.zipWith (fun x y => m32 (x + y)) s v := by
  obtain ⟨s0, s1, s2, s3, s4, s5, s6, s7, rfl⟩ := len8 hs
  obtain ⟨v0, v1, v2, v3, v4, v5, v6, v7, rfl⟩ := len8 hv
  rfl
set_option maxHeartbeats 8000000 in
set_option maxRecDepth 100000 in
theorem block_c (A : Option Addr) (c : Nat) (b s : List Int) (w : World) (hr : Rb w A b) (hc : 64 ≤ c) (hl : b.length = 64) (hu : ∀ j, j < 64 → 0 ≤ b.getD j 0 ∧ b.getD j 0 ≤ 255) (hs : s.length = 8) (hsu : U32 s) :
    Calls Try.prog 45 #[wordsV s, .slice A 64 c] w fun e w' => e = .returned (wordsV (press s b)) ∧ Below w.heap.size w w' := by
  have HR := Aside0.mk hr
  have HC := Aside0.mk hc
  have HL := Aside0.mk hl
  have HU := Aside0.mk hu
  have HS8 := Aside0.mk hs
  have HSU := Aside0.mk hsu
  obtain ⟨s0, s1, s2, s3, s4, s5, s6, s7, hse⟩ := len8 hs
  have HSE := Aside0.mk hse
  have HW0 := Aside0.mk (show Words ((w.alloc (.cells #[.int .u32 s0, .int .u32 s1, .int .u32 s2, .int .u32 s3, .int .u32 s4, .int .u32 s5, .int .u32 s6, .int .u32 s7] 36)).alloc (.cells #[.int .u32 0, .int .u32 0, .int .u32 0, .int .u32 0, .int .u32 0, .int .u32 0, .int .u32 0, .int .u32 0] 36)) w.heap.size 36 s by rw [hse]; exact blk_alloc (blk_new _ _) _)
  have HW1 := Aside0.mk (show Words ((w.alloc (.cells #[.int .u32 s0, .int .u32 s1, .int .u32 s2, .int .u32 s3, .int .u32 s4, .int .u32 s5, .int .u32 s6, .int .u32 s7] 36)).alloc (.cells #[.int .u32 0, .int .u32 0, .int .u32 0, .int .u32 0, .int .u32 0, .int .u32 0, .int .u32 0, .int .u32 0] 36)) (w.heap.size + 1) 36 (List.replicate 8 0) from second_new' _ _ _)
  rw [show wordsV s = .agg #[.int .u32 s0, .int .u32 s1, .int .u32 s2, .int .u32 s3, .int .u32 s4, .int .u32 s5, .int .u32 s6, .int .u32 s7] by rw [hse]; rfl]
  clear hr hc hl hu hs hsu hse
  go_enter Try.func45, Try.ntmps45
  go_wp2_with (fail)
  obtain ⟨wa, hwa⟩ : ∃ wa, (w.alloc (.cells #[.int .u32 s0, .int .u32 s1, .int .u32 s2, .int .u32 s3, .int .u32 s4, .int .u32 s5, .int .u32 s6, .int .u32 s7] 36)).alloc (.cells #[.int .u32 0, .int .u32 0, .int .u32 0, .int .u32 0, .int .u32 0, .int .u32 0, .int .u32 0, .int .u32 0] 36) = wa := ⟨_, rfl⟩
  have HBA := Aside0.mk (show Below w.heap.size w wa by rw [← hwa]; exact below_alloc (below_alloc (Below.refl _ _) _) _)
  have HSZ := Aside0.mk (show wa.heap.size = w.heap.size + 2 by rw [← hwa]; simp)
  rw [hwa] at HW0 HW1 ⊢
  clear hwa
  refine (words_c A c b wa (Kd.C_below HR.out HBA.out) HC.out HL.out HU.out).mono ?_
  rintro e w1 ⟨rfl, hb1⟩
  go_wp2_with (fail)
  refine (keys_c w1).mono ?_
  rintro e w2 ⟨rfl, hb2⟩
  have hb := below_step hb1 hb2
  have X0 := Aside0.mk (show Words w2 w.heap.size 36 s from blk_below HW0.out hb)
  have X1 := Aside0.mk (show Words w2 (w.heap.size + 1) 36 (List.replicate 8 0) from blk_below HW1.out hb)
  have XB := Aside0.mk (below_step HBA.out hb)
  have XS := Aside0.mk (show w.heap.size + 2 ≤ w2.heap.size by have := hb.size; have := HSZ.out; omega)
  clear hb1 hb2 hb HW0 HW1 HBA HSZ
  obtain ⟨D5, hD5⟩ : ∃ D, (nums .u32 (fill b 64)).toArray = D := ⟨_, rfl⟩
  obtain ⟨D6, hD6⟩ : ∃ D, (nums .u32 keys).toArray = D := ⟨_, rfl⟩
  have HD5 := Aside0.mk hD5
  have HD6 := Aside0.mk hD6
  have h5s : D5.size = 64 := by rw [← hD5]; simp [nums, fill_len]
  have h6s : D6.size = 64 := by rw [← hD6]; rfl
  have I5 := Aside0.mk (show (Try.prog.info? 89).map (·.size) = some D5.size by rw [h5s]; exact info_64)
  have I6 := Aside0.mk (show (Try.prog.info? 89).map (·.size) = some D6.size by rw [h6s]; exact info_64)
  have S5 := Aside0.mk (show (64 : Nat) = D5.size from h5s.symm)
  have S6 := Aside0.mk (show (64 : Nat) = D6.size from h6s.symm)
  have O5 := Aside0.mk (show D5.all (·.oneCell') = true by rw [← hD5]; exact nums_one _ _)
  have O6 := Aside0.mk (show D6.all (·.oneCell') = true by rw [← hD6]; exact nums_one _ _)
  rw [show wordsV (fill b 64) = .agg D5 from by rw [← hD5], show wordsV keys = .agg D6 from by rw [← hD6]]
  clear hD5 hD6 h5s h6s
  go_wp2_with (first
    | ((with_reducible refine gate_store (t := 89) (p := 5) (v := .tmp 15) rfl ?_); go_must (refine wpList_store_row rfl 89 (.tmp 5) (.tmp 15) rfl w2.heap.size D5 rfl rfl 89 _ (by exact blk_alloc (blk_new _ _) _) I5.out (by exact S5.out) O5.out ?_); go_must (generalize hW5 : World.setRow _ _ _ = W5); have Y5 := Aside0.mk (show W5.heap[w2.heap.size]? = some (.cells D5 89 (0, 0)) by rw [← hW5]; exact setRow_heap _ _ _ _ _ _ (blk_alloc (blk_new _ _) _)); have Y6 := Aside0.mk (show ∃ Z, Z.size = 64 ∧ W5.heap[w2.heap.size + 1]? = some (.cells Z 89 (0, 0)) by rw [← hW5]; exact ⟨_, by exact rfl, row_other (second_new' _ _ _) (by omega)⟩); have Y0 := Aside0.mk (show Words W5 w.heap.size 36 s by rw [← hW5]; exact row_other (blk_alloc (blk_alloc X0.out _) _) (by have := XS.out; omega)); have Y1 := Aside0.mk (show Words W5 (w.heap.size + 1) 36 (List.replicate 8 0) by rw [← hW5]; exact row_other (blk_alloc (blk_alloc X1.out _) _) (by have := XS.out; omega)); have YB := Aside0.mk (show Below w.heap.size w W5 by rw [← hW5]; exact below_setRow (below_alloc (below_alloc XB.out _) _) (by have := XS.out; omega) _); have YS := Aside0.mk (show W5.heap.size = w2.heap.size + 2 by rw [← hW5]; simp); clear hW5)
    | ((with_reducible refine gate_store (t := 89) (p := 6) (v := .tmp 16) rfl ?_); go_must (obtain ⟨Z, hZ, hY6⟩ := Y6.out); go_must (refine wpList_store_row rfl 89 (.tmp 6) (.tmp 16) rfl (w2.heap.size + 1) D6 rfl rfl 89 Z hY6 I6.out (by rw [hZ]; exact S6.out) O6.out ?_); go_must (generalize hW6 : World.setRow _ _ _ = W6); have V5 := Aside0.mk (show W6.heap[w2.heap.size]? = some (.cells D5 89 (0, 0)) by rw [← hW6]; exact row_other Y5.out (by omega)); have V6 := Aside0.mk (show W6.heap[w2.heap.size + 1]? = some (.cells D6 89 (0, 0)) by rw [← hW6]; exact setRow_heap _ _ _ _ _ _ hY6); have V0 := Aside0.mk (show Words W6 w.heap.size 36 s by rw [← hW6]; exact row_other Y0.out (by have := XS.out; omega)); have V1 := Aside0.mk (show Words W6 (w.heap.size + 1) 36 (List.replicate 8 0) by rw [← hW6]; exact row_other Y1.out (by have := XS.out; omega)); have VB := Aside0.mk (show Below w.heap.size w W6 by rw [← hW6]; exact below_setRow YB.out (by have := XS.out; omega) _); have VS := Aside0.mk (show W6.heap.size = w2.heap.size + 2 by rw [← hW6, size_setRow]; exact YS.out); clear hW6 hY6 hZ; have hv0 := V0.out; rw [HSE.out] at hv0; have z0 : W6.cell? ⟨w.heap.size, 0, none⟩ = some (.int .u32 s0) := hv0.cell 0 (by simp); have z1 : W6.cell? ⟨w.heap.size, 1, none⟩ = some (.int .u32 s1) := hv0.cell 1 (by simp); have z2 : W6.cell? ⟨w.heap.size, 2, none⟩ = some (.int .u32 s2) := hv0.cell 2 (by simp); have z3 : W6.cell? ⟨w.heap.size, 3, none⟩ = some (.int .u32 s3) := hv0.cell 3 (by simp); have z4 : W6.cell? ⟨w.heap.size, 4, none⟩ = some (.int .u32 s4) := hv0.cell 4 (by simp); have z5 : W6.cell? ⟨w.heap.size, 5, none⟩ = some (.int .u32 s5) := hv0.cell 5 (by simp); have z6 : W6.cell? ⟨w.heap.size, 6, none⟩ = some (.int .u32 s6) := hv0.cell 6 (by simp); have z7 : W6.cell? ⟨w.heap.size, 7, none⟩ = some (.int .u32 s7) := hv0.cell 7 (by simp); clear hv0))
  obtain ⟨q, hq⟩ : ∃ q, w2.heap.size = q := ⟨_, rfl⟩
  obtain ⟨p, hp⟩ : ∃ p, W6.heap.size = p := ⟨_, rfl⟩
  have H0 := Aside0.mk (show KInv w q p s (fill b 64) (rounds s (fill b 64) 0) (W6.alloc (.cells #[.int .u32 s0, .int .u32 s1, .int .u32 s2, .int .u32 s3, .int .u32 s4, .int .u32 s5, .int .u32 s6, .int .u32 s7] 36)) by
    have h5 := V5.out
    have h6 := V6.out
    rw [← HD5.out, hq] at h5
    rw [← HD6.out, hq] at h6
    refine ⟨blk_alloc V0.out _, blk_alloc V1.out _, blk_alloc h5 _, blk_alloc h6 _, ?_, by have := XS.out; omega, by have := VS.out; omega, below_alloc VB.out _⟩
    rw [show rounds s (fill b 64) 0 = s from rfl, HSE.out, ← hp]
    exact blk_new _ _)
  rw [hq, hp]
  clear z0 z1 z2 z3 z4 z5 z6 z7 V0 V1 V5 V6 VB VS Y0 Y1 Y5 Y6 YB YS X0 X1 XB XS I5 I6 S5 S6 O5 O6 hq hp
  obtain ⟨ws, hwse⟩ : ∃ ws, fill b 64 = ws := ⟨_, rfl⟩
  have HWE := Aside0.mk hwse
  rw [hwse] at H0
  clear hwse
  go_loopw [8, 9, 10, 11, 12] (fun i _ _ _ _ wr => ∃ k : Nat, k ≤ 64 ∧ i = .int .i64 k ∧ KInv w q p s ws (rounds s ws k) wr) (fun i _ _ _ _ _ => 64 - (intOf i).toNat)
  case atStart => exact ⟨0, by omega, rfl, H0.out⟩
  case round =>
    clear H0
    obtain ⟨k, hk, rfl, hinv⟩ := hrel
    have hU := (rounds_u32 HSU.out ws k).at
    obtain ⟨v0, v1, v2, v3, v4, v5, v6, v7, hv⟩ := len8 (rounds_len HS8.out ws k)
    have HV := Aside0.mk hv
    rw [hv] at hU
    have hinv' := hinv
    rw [hv] at hinv'
    have HI2 := Aside0.mk hinv'
    have hw := hinv'.2.2.2.2.1.cell
    have c0 : wr.cell? ⟨p, 0, none⟩ = some (.int .u32 v0) := hw 0 (by simp)
    have c1 : wr.cell? ⟨p, 1, none⟩ = some (.int .u32 v1) := hw 1 (by simp)
    have c2 : wr.cell? ⟨p, 2, none⟩ = some (.int .u32 v2) := hw 2 (by simp)
    have c3 : wr.cell? ⟨p, 3, none⟩ = some (.int .u32 v3) := hw 3 (by simp)
    have c4 : wr.cell? ⟨p, 4, none⟩ = some (.int .u32 v4) := hw 4 (by simp)
    have c5 : wr.cell? ⟨p, 5, none⟩ = some (.int .u32 v5) := hw 5 (by simp)
    have c6 : wr.cell? ⟨p, 6, none⟩ = some (.int .u32 v6) := hw 6 (by simp)
    have c7 : wr.cell? ⟨p, 7, none⟩ = some (.int .u32 v7) := hw 7 (by simp)
    have HR0 := Aside0.mk (show 0 ≤ v0 ∧ v0 ≤ 4294967295 from hU 0)
    have HR4 := Aside0.mk (show 0 ≤ v4 ∧ v4 ≤ 4294967295 from hU 4)
    by_cases hlt : k < 64
    · obtain ⟨kk, hkk⟩ : ∃ x, keys.getD k 0 = x := ⟨_, rfl⟩
      obtain ⟨xx, hxx⟩ : ∃ x, ws.getD k 0 = x := ⟨_, rfl⟩
      have ck : wr.cell? ⟨q + 1, k, none⟩ = some (.int .u32 kk) := by
        rw [← hkk]
        exact hinv.2.2.2.1.cell k (by show k < 64; omega)
      have cx : wr.cell? ⟨q, k, none⟩ = some (.int .u32 xx) := by
        rw [← hxx]
        exact hinv.2.2.1.cell k (by rw [← HWE.out, fill_len]; omega)
      have HKX := Aside0.mk (And.intro hkk hxx)
      have g4 : (0 : Int) ≤ (k : Int) := by omega
      have f4 : (k : Int) < 64 := by omega
      clear hv hU hinv hinv' hw hkk hxx
      go_wp2
      go_quiet (fail)
      have d0 : (wr.drewN nq).cell? ⟨p, 0, none⟩ = some (.int .u32 v0) := c0
      have d1 : (wr.drewN nq).cell? ⟨p, 1, none⟩ = some (.int .u32 v1) := c1
      have d2 : (wr.drewN nq).cell? ⟨p, 2, none⟩ = some (.int .u32 v2) := c2
      have d3 : (wr.drewN nq).cell? ⟨p, 3, none⟩ = some (.int .u32 v3) := c3
      have d4 : (wr.drewN nq).cell? ⟨p, 4, none⟩ = some (.int .u32 v4) := c4
      have d5 : (wr.drewN nq).cell? ⟨p, 5, none⟩ = some (.int .u32 v5) := c5
      have d6 : (wr.drewN nq).cell? ⟨p, 6, none⟩ = some (.int .u32 v6) := c6
      have d7 : (wr.drewN nq).cell? ⟨p, 7, none⟩ = some (.int .u32 v7) := c7
      have dk : (wr.drewN nq).cell? ⟨q + 1, k, none⟩ = some (.int .u32 kk) := ck
      have dx : (wr.drewN nq).cell? ⟨q, k, none⟩ = some (.int .u32 xx) := cx
      have HI3 := Aside0.mk (HI2.out.drewN nq)
      clear c0 c1 c2 c3 c4 c5 c6 c7 ck cx HI2
      revert d0 d1 d2 d3 d4 d5 d6 d7 dk dx HI3
      generalize wr.drewN nq = wq
      intro d0 d1 d2 d3 d4 d5 d6 d7 dk dx HI3
      have rq6 := fun m => turnq_6 v4 wq m HR4.out
      have rq11 := fun m => turnq_11 v4 wq m HR4.out
      have rq25 := fun m => turnq_25 v4 wq m HR4.out
      go_wp2_with (fail)
      go_quiet ((first | (with_reducible exact rq6 _) | (with_reducible exact rq11 _) | (with_reducible exact rq25 _)))
      have c0 : (wq.drewN nq).cell? ⟨p, 0, none⟩ = some (.int .u32 v0) := d0
      have c1 : (wq.drewN nq).cell? ⟨p, 1, none⟩ = some (.int .u32 v1) := d1
      have c2 : (wq.drewN nq).cell? ⟨p, 2, none⟩ = some (.int .u32 v2) := d2
      have c3 : (wq.drewN nq).cell? ⟨p, 3, none⟩ = some (.int .u32 v3) := d3
      have c4 : (wq.drewN nq).cell? ⟨p, 4, none⟩ = some (.int .u32 v4) := d4
      have c5 : (wq.drewN nq).cell? ⟨p, 5, none⟩ = some (.int .u32 v5) := d5
      have c6 : (wq.drewN nq).cell? ⟨p, 6, none⟩ = some (.int .u32 v6) := d6
      have HI4 := Aside0.mk (HI3.out.drewN nq)
      clear d0 d1 d2 d3 d4 d5 d6 d7 dk dx HI3 rq6 rq11 rq25
      revert c0 c1 c2 c3 c4 c5 c6 HI4
      generalize wq.drewN nq = w3
      intro c0 c1 c2 c3 c4 c5 c6 HI4
      have rq2 := fun m => turnq_2 v0 w3 m HR0.out
      have rq13 := fun m => turnq_13 v0 w3 m HR0.out
      have rq22 := fun m => turnq_22 v0 w3 m HR0.out
      go_wp2_with (fail)
      go_quiet ((first | (with_reducible exact rq2 _) | (with_reducible exact rq13 _) | (with_reducible exact rq22 _)))
      have d0 : (w3.drewN nq).cell? ⟨p, 0, none⟩ = some (.int .u32 v0) := c0
      have d1 : (w3.drewN nq).cell? ⟨p, 1, none⟩ = some (.int .u32 v1) := c1
      have d2 : (w3.drewN nq).cell? ⟨p, 2, none⟩ = some (.int .u32 v2) := c2
      have d3 : (w3.drewN nq).cell? ⟨p, 3, none⟩ = some (.int .u32 v3) := c3
      have d4 : (w3.drewN nq).cell? ⟨p, 4, none⟩ = some (.int .u32 v4) := c4
      have d5 : (w3.drewN nq).cell? ⟨p, 5, none⟩ = some (.int .u32 v5) := c5
      have d6 : (w3.drewN nq).cell? ⟨p, 6, none⟩ = some (.int .u32 v6) := c6
      have HI5 := Aside0.mk (HI4.out.drewN nq)
      clear c0 c1 c2 c3 c4 c5 c6 HI4 rq2 rq13 rq22
      revert d0 d1 d2 d3 d4 d5 d6 HI5
      generalize w3.drewN nq = w4
      intro d0 d1 d2 d3 d4 d5 d6 HI5
      go_wp2_with ((with_reducible refine gate_store (t := 36) (p := 7) (v := .tmp 99) rfl ?_); go_must (refine wpList_store_row rfl 36 (.tmp 7) (.tmp 99) rfl p _ rfl rfl 36 _ HI5.out.2.2.2.2.1 (by exact info_8) (by rfl) (by exact nums_one .u32 [_, v0, v1, v2, _, v4, v5, v6]) ?_))
      go_roundw
      case rel =>
        refine ⟨k + 1, by omega, by go_num, HI5.out.next ?_⟩
        rw [show rounds s ws (k + 1) = ShaPlain.step (rounds s ws k) (keys.getD k 0) (ws.getD k 0) from rfl, HV.out, HKX.out.1, HKX.out.2]
        show [m32 (one _ kk xx + two _), v0, v1, v2, m32 (v3 + one _ kk xx), v4, v5, v6] = _
        simp only [List.cons.injEq, true_and, and_true]
        constructor
        · show m32 (m32 (v7 + sigE v4 + choice v4 v5 v6 + kk + xx) + m32 (sigA v0 + most v0 v1 v2)) = _
          unfold m32 sigE sigA choice most xo an
          omega
        · show m32 (v3 + m32 (v7 + sigE v4 + choice v4 v5 v6 + kk + xx)) = _
          unfold m32 sigE choice xo an
          omega
      case measure => simp [intOf]; omega
    · have HKE := Aside0.mk (show k = 64 by omega)
      have hge : 64 ≤ k := by omega
      have hdk : decide ((k : Int) < 64) = false := decide_eq_false (by omega)
      obtain ⟨v, hve⟩ : ∃ v, rounds s ws k = v := ⟨_, rfl⟩
      have HVE := Aside0.mk hve
      have HVL := Aside0.mk (show v.length = 8 by rw [← hve]; exact rounds_len HS8.out ws k)
      have HA := Aside0.mk (show KInv w q p (addN s v 0) ws v wr by rw [← hve]; exact hinv)
      clear hv hU hinv hinv' hw hlt hk hve c0 c1 c2 c3 c4 c5 c6 c7 HI2 HR0 HR4
      go_wp2
      clear hge hdk
      go_loopw [13] (fun i wx => ∃ j : Nat, j ≤ 8 ∧ i = .int .i64 j ∧ KInv w q p (addN s v j) ws v wx) (fun i _ => 8 - (intOf i).toNat)
      case atStart => exact ⟨0, by omega, rfl, HA.out⟩
      case round =>
        clear HA
        obtain ⟨j, hj, rfl, hinv⟩ := hrel
        have HA := Aside0.mk hinv
        by_cases hlt : j < 8
        · obtain ⟨x, hx⟩ : ∃ x, s.getD j 0 = x := ⟨_, rfl⟩
          obtain ⟨y, hy⟩ : ∃ y, v.getD j 0 = y := ⟨_, rfl⟩
          have HXY := Aside0.mk (And.intro hx hy)
          have cs := hinv.1.cell j (by rw [addN_len, HS8.out]; exact hlt)
          rw [addN_get s v j j (Nat.le_refl _), hx] at cs
          have cv := hinv.2.2.2.2.1.cell j (by rw [HVL.out]; exact hlt)
          rw [hy] at cv
          have hf : wr.drew.frozen? ⟨w.heap.size, j, none⟩ = false := hinv.1.free j
          have hd : wr.drew.cell? ⟨w.heap.size, j, none⟩ = some (.int .u32 x) := cs
          have j0 : (0 : Int) ≤ (j : Int) := by omega
          have j1 : (j : Int) < 8 := by omega
          clear hx hy hinv
          go_wp2
          go_still_tail 9, (by kernel_rfl)
          change wpList _ _ _ _ _ wr.drew
          have HA2 := Aside0.mk (show KInv w q p (addN s v j) ws v wr.drew from HA.out.drewN 1)
          clear HA cs cv
          obtain ⟨w2', hw2⟩ : ∃ w2', wr.drew = w2' := ⟨_, rfl⟩
          rw [hw2] at hf hd HA2 ⊢
          clear hw2
          go_wp2
          go_roundw
          case rel =>
            refine ⟨j + 1, by omega, by go_num, ?_⟩
            rw [addN, HXY.out.1, HXY.out.2]
            exact HA2.out.set_s j _
          case measure => simp [intOf]; omega
        · have HJ := Aside0.mk (show j = 8 by omega)
          have hge : 8 ≤ j := by omega
          obtain ⟨D, hD⟩ : ∃ D, (nums .u32 (addN s v j)).toArray = D := ⟨_, rfl⟩
          have h2 := hinv.1
          unfold Words at h2
          rw [hD] at h2
          have H2 := Aside0.mk h2
          have H4 := Aside0.mk hinv.2.1
          have HB := Aside0.mk hinv.2.2.2.2.2.2.2
          have hds : D.size = 8 := by rw [← hD]; simp [nums, addN_len, HS8.out]
          have HZS := Aside0.mk (show (nums .u32 (List.replicate 8 0)).toArray.size = D.size by rw [hds]; simp [nums])
          have HIF := Aside0.mk (show (Try.prog.info? 36).map (·.size) = some D.size by rw [hds]; exact info_8)
          have HONE := Aside0.mk (show D.all (·.oneCell') = true by rw [← hD]; exact nums_one _ _)
          have HFIN := Aside0.mk (show D = (nums .u32 (press s b)).toArray by
            rw [← hD, HJ.out, addN_all HS8.out HVL.out, ← HVE.out, HKE.out, press, HWE.out])
          clear hD hds h2 hinv hlt hj HA
          go_wp2_with (first
            | ((with_reducible refine gate_dst (N := 113) rfl ?_); refine wpList_load_row rfl 36 (.tmp 2) rfl w.heap.size rfl 36 D (0, 0) _ H2.out Try.underlying36 rfl HIF.out ?_)
            | ((with_reducible refine gate_store (t := 36) (p := 4) (v := .tmp 113) rfl ?_); refine wpList_store_row rfl 36 (.tmp 4) (.tmp 113) rfl (w.heap.size + 1) D rfl rfl 36 _ H4.out HIF.out HZS.out HONE.out ?_))
          have HSR := setRow_heap wr (w.heap.size + 1) _ D _ _ H4.out
          refine bodyPost_ret (v := .agg D) (results_cell_row rfl _ _ (w.heap.size + 1) 36 D (0, 0) _ rfl HSR Try.underlying36 rfl HIF.out) rfl ⟨by rw [HFIN.out], below_setRow HB.out (by omega) D⟩
end Go.Proofs.Ytbebkogkeepfoaa.Sha
/- Bytes put one by one are blocks taken in: plain. -/
namespace Go.Proofs.Ytbebkogkeepfoaa.Sha
set_option linter.unusedVariables false
open Go.RowKit Go.Proofs.Ytbebkogkeepfoaa.Base Go.Proofs.Ytbebkogkeepfoaa.ShaPlain Go.Proofs.Ytbebkogkeepfoaa.Aid Go.Proofs.YtbebkogkeepfoaaW.PrintWords
theorem put_some {s r : List Int} {n : Nat} (hn : n % 64 = 0) (hr : r.length = 64) (B : List Int) (hB : B.length = 64) : ∀ j, j ≤ 63 → List.foldl put (s, r, n) (B.take j) = (s, B.take j ++ r.drop j, n + j) := by
  intro j
  induction j with
  | zero => intro _; simp
  | succ j ih =>
    intro hj
    have hjl : j < B.length := by omega
    rw [Aid.take_snoc B j hjl, List.foldl_append, ih (by omega)]
    show put (s, B.take j ++ r.drop j, n + j) B[j] = _
    unfold put
    dsimp only
    have hm : (n + j) % 64 = j := by omega
    rw [hm, if_neg (by omega), List.append_assoc]
    congr 2
    rw [List.set_append_right _ _ (by rw [List.length_take]; omega), List.length_take, Nat.min_eq_left (by omega), Nat.sub_self, List.drop_eq_getElem_cons (show j < r.length by omega)]
    rfl
theorem put_block {s r : List Int} {n : Nat} (hn : n % 64 = 0) (hr : r.length = 64) (B : List Int) (hB : B.length = 64) : List.foldl put (s, r, n) B = (press s B, B, n + 64) := by
  have h := put_some (s := s) hn hr B hB 63 (by omega)
  have e : B = B.take 63 ++ [B[63]'(by omega)] := by rw [← Aid.take_snoc B 63 (by omega), List.take_of_length_le (by omega)]
  have hset : (B.take 63 ++ r.drop 63).set 63 (B[63]'(by omega)) = B := by
    rw [List.set_append_right _ _ (by rw [List.length_take]; omega), List.length_take, Nat.min_eq_left (by omega), Nat.sub_self, List.drop_eq_getElem_cons (show 63 < r.length by omega), List.drop_of_length_le (by omega)]
    exact e.symm
  conv => lhs; rw [e]
  rw [List.foldl_append, h]
  show put (s, B.take 63 ++ r.drop 63, n + 63) (B[63]'(by omega)) = _
  unfold put
  dsimp only
  rw [show (n + 63) % 64 = 63 from by omega, if_pos rfl, hset]
/-- The state behind the first i blocks of bytes. -/
def blocks (L : List Int) : Nat → List Int
  | 0 => ShaPlain.start
  | i + 1 => press (blocks L i) ((L.drop (64 * i)).take 64)
theorem blocks_len (L : List Int) : ∀ i, (blocks L i).length = 8
  | 0 => rfl
  | i + 1 => press_len (blocks_len L i) _
theorem blocks_u32 (L : List Int) : ∀ i, U32 (blocks L i)
  | 0 => start_u32
  | i + 1 => press_u32 _ _
theorem put_blocks (L : List Int) : ∀ i, 64 * i ≤ L.length → ∃ r, r.length = 64 ∧ List.foldl put st0 (L.take (64 * i)) = (blocks L i, r, 64 * i) := by
  intro i
  induction i with
  | zero => intro _; exact ⟨_, by simp, rfl⟩
  | succ i ih =>
    intro h
    obtain ⟨r, hr, he⟩ := ih (by omega)
    have e : L.take (64 * (i + 1)) = L.take (64 * i) ++ (L.drop (64 * i)).take 64 := by rw [show 64 * (i + 1) = 64 * i + 64 from by omega, List.take_add]
    have hB : ((L.drop (64 * i)).take 64).length = 64 := by rw [List.length_take, List.length_drop]; omega
    refine ⟨_, hB, ?_⟩
    rw [e, List.foldl_append, he, put_block (by omega) hr _ hB]
    rfl
theorem shaB_eq (t : List Int) (m : Nat) (h : (t ++ padB t.length).length = 64 * m) : shaB t = outB (blocks (t ++ padB t.length) m) := by
  have hn : (List.foldl put st0 t).2.2 = t.length := by rw [puts_n]; show 0 + _ = _; omega
  obtain ⟨r, _, he⟩ := put_blocks (t ++ padB t.length) m (by omega)
  rw [List.take_of_length_le (by omega)] at he
  unfold shaB sumB
  rw [hn, ← List.foldl_append, he]
end Go.Proofs.Ytbebkogkeepfoaa.Sha
/- The document's sum walked. -/
namespace Go.Proofs.Ytbebkogkeepfoaa.Sha
set_option linter.unusedVariables false
open Go.RowKit Go.Proofs.Ytbebkogkeepfoaa.Base Go.Proofs.Ytbebkogkeepfoaa.ShaPlain Go.Proofs.Ytbebkogkeepfoaa.Aid Go.Proofs.YtbebkogkeepfoaaW.PrintWords Go.Proofs.YtbebkogkeepfoaaW.PrintLast Go.Proofs.YtbebkogkeepfoaaW.PrintMore
abbrev Z32 : Array Value := (nums .u8 (List.replicate 32 0)).toArray
theorem snoc_list {L : List Int} {k : Nat} {x : Int} (hk : k < L.length) (hx : L.getD k 0 = x) : L.take k ++ [x] = L.take (k + 1) := by
  rw [Aid.take_snoc L k hk, ← hx, List.getD_eq_getElem?_getD, List.getElem?_eq_getElem hk]; rfl
def FInv (w : World) (L : List Int) (v : Value) (W : World) : Prop := Ob W w.heap.size v L ∧ Below w.heap.size w W ∧ W.heap[w.heap.size]? = some (.cells Z32 24 (0, 0))
def SOI (w : World) (M : List Int) (A : Option Addr) (p k : Nat) (W : World) : Prop := Rb W A M ∧ (∀ a, A = some a → 0 < M.length → a.block < p) ∧ Below w.heap.size w W ∧ W.heap[w.heap.size]? = some (.cells Z32 24 (0, 0)) ∧ Words W p 36 (blocks M k) ∧ w.heap.size < p
theorem keep_row (W : World) (p : Nat) (cs : Array Value) : KeepBut W (W.setRow p cs) p none := ⟨Nat.le_of_eq (size_setRow _ _ _).symm, fun i _ hne _ => setRow_other W p i cs hne⟩
theorem still_load_row {P : Program} {ops : Array Oper} {rest : List Oper} {o : Oper} {a : Act} {w : World} {Q : Act → Prop} (hgd : o.guard = none) (ty : TypeId) (x : Operand) (ho : o.op = .load ty x)
    (g : Nat) (hx : a.eval x = .pointer (some ⟨g, 0, none⟩)) (t : TypeId) (cs : Array Value) (fr : Nat × Nat) (d : TypeDesc) (hg : w.heap[g]? = some (.cells cs t fr))
    (hu : P.underlying ty = some d) (hd : (match d with | .struct _ | .array _ _ => true | _ => false) = true) (hi : (P.info? ty).map (·.size) = some cs.size)
    (h : wpStill P ops w Q rest (a.put o.dst (.agg cs))) : wpStill P ops w Q (o :: rest) a := by
  unfold wpStill
  rw [if_pos (by simp [Region.wanted, hgd])]
  unfold Oper.still execOp
  simp only [ho, hx, Instr.loadAt, Instr.sureAddr, Sem.run_bind, Sem.run_pure, Result.andThen_ok, run_loadVar_row w g t ty cs fr d hg hu hd hi, Oper.stillUpon]
  exact ⟨trivial, h⟩
theorem rb_part {w : World} {A : Option Addr} {b : List Int} (h : Rb w A b) (x n c : Nat) (hc : b.length ≤ c) (hx : x + n ≤ b.length) (hn : ¬ c = x) : Rb w (A.map (·.add x)) ((b.drop x).take n) := by
  have h1 := ((Kd.reads_of_C (d := (0 : Int)) h).drop_ x (by omega) hc).take_ n (by omega)
  rw [if_neg hn] at h1
  have h2 := Kd.C_of_reads (d := (0 : Int)) (h1 := fun _ => rfl) h1
  show Kd.C _ w _ ((b.drop x).take n).length _
  rw [show ((b.drop x).take n).length = n from by rw [List.length_take, List.length_drop]; omega]
  exact h2
theorem part_u8 {b : List Int} (h : ∀ x ∈ b, 0 ≤ x ∧ x ≤ 255) (x n i : Nat) : 0 ≤ ((b.drop x).take n).getD i 0 ∧ ((b.drop x).take n).getD i 0 ≤ 255 := by
  rw [List.getD_eq_getElem?_getD]
  cases hq : ((b.drop x).take n)[i]? with
  | none => exact ⟨by decide, by decide⟩
  | some y => exact h y (List.mem_of_mem_drop (List.mem_of_mem_take (List.mem_of_getElem? hq)))
theorem pad_u8 {t : List Int} (h : ∀ x ∈ t, 0 ≤ x ∧ x ≤ 255) (n : Nat) : ∀ x ∈ t ++ padB n, 0 ≤ x ∧ x ≤ 255 := by
  intro x hx
  rcases List.mem_append.1 hx with hx | hx
  · exact h x hx
  · simp only [padB, sizeB, List.mem_cons, List.mem_append, List.mem_map, List.mem_range] at hx
    rcases hx with rfl | hx | ⟨i, _, rfl⟩
    · omega
    · rw [List.eq_of_mem_replicate hx]; omega
    · omega
/-- The answer's bytes under way. -/
def RI (w : World) (p p8 : Nat) (s : List Int) (k : Nat) (W : World) : Prop := Words W p 36 s ∧ Below w.heap.size w W ∧ W.heap[w.heap.size]? = some (.cells Z32 24 (0, 0)) ∧ W.heap[p8]? = some (.cells (nums .u8 (outN s k)).toArray 24 (0, 0)) ∧ p < p8 ∧ w.heap.size < p
theorem RI.next {w W : World} {p p8 k : Nat} {s : List Int} (h : RI w p p8 s k W) {x : Int} (hx : x = s.getD (k / 4) 0 / 2 ^ (24 - 8 * (k % 4)) % 256) : RI w p p8 s (k + 1) (W.setCell ⟨p8, k, none⟩ (.int .u8 x)) := by
  subst hx
  obtain ⟨h1, h2, h3, h4, h5, h6⟩ := h
  have hk : ∀ i o, W.heap[i]? = some o → i ≠ p8 → (W.setCell ⟨p8, k, none⟩ (.int .u8 (s.getD (k / 4) 0 / 2 ^ (24 - 8 * (k % 4)) % 256))).heap[i]? = some o := fun i o ho hne => (Below.heap_setCell W ⟨p8, k, none⟩ _ i hne).trans ho
  refine ⟨hk _ _ h1 (Nat.ne_of_lt h5), below_set h2 (Nat.le_of_lt (Nat.lt_trans h6 h5)), hk _ _ h3 (Nat.ne_of_lt (Nat.lt_trans h6 h5)), ?_, h5, h6⟩
  have := blk_set h4 k (.int .u8 (s.getD (k / 4) 0 / 2 ^ (24 - 8 * (k % 4)) % 256))
  rw [nums_set] at this
  exact this
theorem below_drew_of {w w' : World} (h : Below w.drew.heap.size w.drew w') : Below w.heap.size w w' := below_step (below_drew1 (Below.refl _ _)) h
theorem SOI.next {w W W' : World} {M : List Int} {A : Option Addr} {p k : Nat} (h : SOI w M A p k W) (hb : Below W.heap.size W W') {D : Array Value} (hD : D = (nums .u32 (blocks M (k + 1))).toArray) : SOI w M A p (k + 1) (W'.setRow p D) := by
  subst hD
  obtain ⟨h1, h2, h3, h4, h5, h6⟩ := h
  have k1 := keep_row W' p (nums .u32 (blocks M (k + 1))).toArray
  refine ⟨reads_keep (Kd.C_below h1 hb) k1 (fun a ha h0 => Nat.ne_of_lt (h2 a ha h0)), h2, below_setRow (below_step h3 hb) (Nat.le_of_lt h6) _, row_other (blk_below h4 hb) (Nat.ne_of_lt h6), setRow_heap _ _ _ _ _ _ (blk_below h5 hb), h6⟩
set_option maxHeartbeats 8000000 in
set_option maxRecDepth 100000 in
theorem rof_c (A : Option Addr) (c : Nat) (t : List Int) (w : World) (hr : Rb w A t) (hc : t.length ≤ c) (hu : ∀ x ∈ t, 0 ≤ x ∧ x ≤ 255) (hl : t.length ≤ 1000000) :
    Calls Try.prog 15 #[.slice A t.length c] w fun e w' => e = .returned (sumV (shaB t)) ∧ Below w.heap.size w w' := by
  have HR := Aside0.mk hr
  have HU := Aside0.mk hu
  have HL := Aside0.mk hl
  have HZ := Aside0.mk (show (w.alloc (.cells Z32 24)).heap[w.heap.size]? = some (.cells Z32 24 (0, 0)) from blk_new _ _)
  have HB := Aside0.mk (below_alloc (Below.refl w.heap.size w) (.cells Z32 24))
  obtain ⟨n, hn⟩ : ∃ n, t.length = n := ⟨_, rfl⟩
  have HN := Aside0.mk hn
  have n0 : (0 : Int) ≤ (n : Int) := by omega
  have n1 : (n : Int) ≤ 1000000 := by omega
  have HRN := Aside0.mk (show Kd.C (Kd.int .u8) w A n t by rw [← hn]; exact hr)
  rw [hn] at hc ⊢
  clear hr hu hl hn
  go_enter Try.func15, Try.ntmps15
  go_wp2_with (first
    | ((with_reducible refine gate_dst (N := 10) rfl ?_); refine Kd.R_lit (Kd.int .u8) w.heap.size 5 ?hg (N := 10) ?hd (xs := ([] : List Int)) (inner := []) (ok := fun _ => True) (okp := fun _ => True) ?hr ?hp (fun _ hk => hk) trivial HB.out HB.out.size (by simp) ?_; (case hd => rfl); (case hg => rfl); (case hr => first | (go_simp; done) | (go_simp; rfl)); (case hp => exact (Reps.none _ _)); intro v0 w3 ho4 hb hg_ hnew_; have HO := Aside0.mk ho4; have n2_ := Aside0.mk hb; have n3_ := Aside0.mk (blk_grown HZ.out hg_ (by simp)); clear HB HZ; have HB := n2_; have HZ := n3_; clear n2_ n3_ hb ho4 hg_ hnew_)
    | ((with_reducible refine gate_builtin (b := .append) (xs := #[.tmp 10, .tmp 11]) rfl ?_); at_builtin; refine Kd.R_append_rows (Kd.int .u8) (w0 := w) w.heap.size rfl (.tmp 10) (.tmp 11) 22 5 (.int .u8 0) 1 rfl Try.underlying22 info_u8 rfl (by decide) (by omega) v0 [] t _ _ _ (fun _ => True) (fun _ => False) rfl rfl HO.out (Kd.C_below HRN.out HB.out) (fun _ _ h => h) (fun _ h => h.elim) (fun _ _ => trivial) HB.out HB.out.size (by have := HL.out; have := HN.out; simp; omega) ?_; intro v1 w5 ho hb hg hat; have n1_ := Aside0.mk (blk_grown HZ.out hg (Kd.R_ne HO.out HZ.out (by decide))); have n2_ := Aside0.mk ho; have n3_ := Aside0.mk hb; clear HZ HO HB; have HZ := n1_; have HO := n2_; have HB := n3_; clear n1_ n2_ n3_ ho hb hg hat)
    | ((with_reducible refine gate_dst (N := 14) rfl ?_); (try (refine gate_guard (by rfl) ?_; dsimp only)); refine lit_bytes (N := 14) ?hg ?hd [128] [.int .u8 (128)] rfl ?hr (by simp) ?_; (case hd => rfl); (case hg => rfl); (case hr => first | (go_simp; done) | (go_simp; rfl)); intro v w1 ho hb; have n1_ := Aside0.mk (Kd.R_below HO.out hb); have n2_ := Aside0.mk (below_step HB.out hb); have n3_ := Aside0.mk (blk_below HZ.out hb); clear HO HB HZ; have HO := n1_; have HB := n2_; have HZ := n3_; clear n1_ n2_ n3_ hb; obtain ⟨Aq, cq, rfl, hl_, hr_⟩ := Ob.reads ho; have HRq := Aside0.mk hr_; have HLq := Aside0.mk hl_; clear ho hl_ hr_)
    | ((with_reducible refine gate_builtin (b := .append) (xs := #[.tmp 13, .tmp 14]) rfl ?_); at_builtin; refine Kd.R_append_rows (Kd.int .u8) (w0 := w) w.heap.size rfl (.tmp 13) (.tmp 14) 22 5 (.int .u8 0) 1 rfl Try.underlying22 info_u8 rfl (by decide) (by omega) v1 t [128] _ _ _ (fun _ => True) (fun _ => False) rfl rfl HO.out HRq.out (fun _ _ h => h) (fun _ h => h.elim) (fun _ _ => trivial) HB.out HB.out.size (by have := HL.out; simp; omega) ?_; intro v2 w5 ho hb hg hat; have n1_ := Aside0.mk (blk_grown HZ.out hg (Kd.R_ne HO.out HZ.out (by decide))); have n2_ := Aside0.mk ho; have n3_ := Aside0.mk hb; clear HZ HO HB; have HZ := n1_; have HO := n2_; have HB := n3_; clear n1_ n2_ n3_ ho hb hg hat))
  obtain ⟨z, hz⟩ : ∃ z, (119 - n % 64) % 64 = z := ⟨_, rfl⟩
  have HZZ := Aside0.mk hz
  clear hz
  have H0 := Aside0.mk (show FInv w (t ++ [128] ++ List.replicate (z - z) 0) v2 w5 by rw [Nat.sub_self]; simp only [List.replicate_zero, List.append_nil]; exact ⟨HO.out, HB.out, HZ.out⟩)
  clear HO HB HZ
  go_loopg [3] z (fun gk v wx => gk ≤ z ∧ FInv w (t ++ [128] ++ List.replicate (z - gk) 0) v wx)
  case atStart => exact ⟨Nat.le_refl _, H0.out⟩
  case round =>
    clear H0
    obtain ⟨hgk, hinv⟩ := hrel
    obtain ⟨L, hLe⟩ : ∃ L, t ++ [128] ++ List.replicate (z - gk) 0 = L := ⟨_, rfl⟩
    have HLE := Aside0.mk hLe
    have hlen : L.length = n + 1 + (z - gk) := by rw [← hLe]; simp only [List.length_append, List.length_replicate, List.length_cons, List.length_nil, HN.out]
    rw [hLe] at hinv
    have HO := Aside0.mk hinv.1
    have HB := Aside0.mk hinv.2.1
    have HZ := Aside0.mk hinv.2.2
    obtain ⟨A3, c3, rfl, hc3, hr3⟩ := Ob.reads hinv.1
    obtain ⟨m, hm⟩ : ∃ m, L.length = m := ⟨_, rfl⟩
    have HM := Aside0.mk hm
    rw [hm] at HO ⊢
    obtain ⟨qq, hqq⟩ : ∃ q, m % 64 = q := ⟨_, rfl⟩
    have hqi : (m : Int) % 64 = (qq : Int) := by omega
    have m0 : (0 : Int) ≤ (m : Int) := by omega
    have hz := HZZ.out
    by_cases h56 : qq = 56
    · have hbq : ((qq : Int) == 56) = true := by simp; omega
      have hbn : ((qq : Int) != 56) = false := by simp; omega
      have HGK := Aside0.mk (show z - gk = z by omega)
      have HMB := Aside0.mk (show m ≤ 1000064 by have := HL.out; have := HN.out; omega)
      have HM8 := Aside0.mk (show ∃ q, m + 8 = 64 * q from ⟨(m + 8) / 64, by omega⟩)
      clear hinv hLe hlen hm hqq h56 hz hgk hc3 hr3
      have HA := Aside0.mk (show FInv w (L ++ (sizeB (8 * n)).take 0) (.slice A3 m c3) wr by rw [List.take_zero, List.append_nil]; exact ⟨HO.out, HB.out, HZ.out⟩)
      go_wp2_with (fail)
      clear hbq hbn hqi HO HB HZ
      go_loopw [3, 5] (fun v i wx => ∃ k : Nat, k ≤ 8 ∧ i = .int .i64 k ∧ FInv w (L ++ (sizeB (8 * n)).take k) v wx) (fun _ i _ => 8 - (intOf i).toNat)
      case atStart => exact ⟨0, by omega, rfl, HA.out⟩
      case round =>
        clear HA
        obtain ⟨k, hk, rfl, hinv⟩ := hrel
        obtain ⟨L4, hL4⟩ : ∃ L4, L ++ (sizeB (8 * n)).take k = L4 := ⟨_, rfl⟩
        have HL4 := Aside0.mk hL4
        have hm4 : L4.length = m + k := by rw [← hL4, List.length_append, List.length_take, sizeB_len, HM.out]; omega
        rw [hL4] at hinv
        have HO := Aside0.mk hinv.1
        have HB := Aside0.mk hinv.2.1
        have HZ := Aside0.mk hinv.2.2
        obtain ⟨A4, c4, rfl, hc4, hr4⟩ := Ob.reads hinv.1
        have HR4 := Aside0.mk hr4
        have HM4 := Aside0.mk hm4
        by_cases hlt : k < 8
        · have h8 : k = 0 ∨ k = 1 ∨ k = 2 ∨ k = 3 ∨ k = 4 ∨ k = 5 ∨ k = 6 ∨ k = 7 := by omega
          clear hk hlt hinv hc4 hr4 hm4 hL4
          rcases h8 with rfl | rfl | rfl | rfl | rfl | rfl | rfl | rfl
          · go_wp2_with (first
              | ((with_reducible refine gate_dst (N := 39) rfl ?_); (try (refine gate_guard (by rfl) ?_; dsimp only)); refine lit_bytes (N := 39) ?hg ?hd [(n : Int) * 8 / 72057594037927936] [.int .u8 ((n : Int) * 8 / 72057594037927936)] rfl ?hr (by simp) ?_; (case hd => rfl); (case hg => rfl); (case hr => first | (go_simp; done) | (go_simp; rfl)); intro v w1 ho hb; have n1_ := Aside0.mk (Kd.R_below HO.out hb); have n2_ := Aside0.mk (below_step HB.out hb); have n3_ := Aside0.mk (blk_below HZ.out hb); clear HO HB HZ; have HO := n1_; have HB := n2_; have HZ := n3_; clear n1_ n2_ n3_ hb; obtain ⟨As, cs, rfl, hl_, hr_⟩ := Ob.reads ho; have HRs := Aside0.mk hr_; have HLs := Aside0.mk hl_; clear ho hl_ hr_)
              | ((with_reducible refine gate_builtin (b := .append) (xs := #[.tmp 31, .tmp 39]) rfl ?_); at_builtin; refine Kd.R_append_rows (Kd.int .u8) (w0 := w) w.heap.size rfl (.tmp 31) (.tmp 39) 22 5 (.int .u8 0) 1 rfl Try.underlying22 info_u8 rfl (by decide) (by omega) (.slice A4 L4.length c4) L4 [(n : Int) * 8 / 72057594037927936] _ _ _ (fun _ => True) (fun _ => False) rfl rfl HO.out HRs.out (fun _ _ h => h) (fun _ h => h.elim) (fun _ _ => trivial) HB.out HB.out.size (by have := HMB.out; have := HM4.out; simp; omega) ?_; intro v6 w5 ho hb hg hat; have n1_ := Aside0.mk (blk_grown HZ.out hg (Kd.R_ne HO.out HZ.out (by decide))); have n2_ := Aside0.mk ho; have n3_ := Aside0.mk hb; clear HZ HO HB; have HZ := n1_; have HO := n2_; have HB := n3_; clear n1_ n2_ n3_ ho hb hg hat))
            rw [← HL4.out, List.append_assoc, snoc_list (k := 0) (by rw [sizeB_len]; omega) (by show ((8 * n / 2 ^ (56 - 8 * 0) % 256 : Nat) : Int) = _; simp only [Nat.reduceMul, Nat.reduceSub, Nat.reducePow]; omega)] at HO
            go_roundw
            case rel => exact ⟨1, by omega, rfl, HO.out, HB.out, HZ.out⟩
            case measure => simp [intOf]
          · go_wp2_with (first
              | ((with_reducible refine gate_dst (N := 39) rfl ?_); (try (refine gate_guard (by rfl) ?_; dsimp only)); refine lit_bytes (N := 39) ?hg ?hd [(n : Int) * 8 / 281474976710656] [.int .u8 ((n : Int) * 8 / 281474976710656)] rfl ?hr (by simp) ?_; (case hd => rfl); (case hg => rfl); (case hr => first | (go_simp; done) | (go_simp; rfl)); intro v w1 ho hb; have n1_ := Aside0.mk (Kd.R_below HO.out hb); have n2_ := Aside0.mk (below_step HB.out hb); have n3_ := Aside0.mk (blk_below HZ.out hb); clear HO HB HZ; have HO := n1_; have HB := n2_; have HZ := n3_; clear n1_ n2_ n3_ hb; obtain ⟨As, cs, rfl, hl_, hr_⟩ := Ob.reads ho; have HRs := Aside0.mk hr_; have HLs := Aside0.mk hl_; clear ho hl_ hr_)
              | ((with_reducible refine gate_builtin (b := .append) (xs := #[.tmp 31, .tmp 39]) rfl ?_); at_builtin; refine Kd.R_append_rows (Kd.int .u8) (w0 := w) w.heap.size rfl (.tmp 31) (.tmp 39) 22 5 (.int .u8 0) 1 rfl Try.underlying22 info_u8 rfl (by decide) (by omega) (.slice A4 L4.length c4) L4 [(n : Int) * 8 / 281474976710656] _ _ _ (fun _ => True) (fun _ => False) rfl rfl HO.out HRs.out (fun _ _ h => h) (fun _ h => h.elim) (fun _ _ => trivial) HB.out HB.out.size (by have := HMB.out; have := HM4.out; simp; omega) ?_; intro v6 w5 ho hb hg hat; have n1_ := Aside0.mk (blk_grown HZ.out hg (Kd.R_ne HO.out HZ.out (by decide))); have n2_ := Aside0.mk ho; have n3_ := Aside0.mk hb; clear HZ HO HB; have HZ := n1_; have HO := n2_; have HB := n3_; clear n1_ n2_ n3_ ho hb hg hat))
            rw [← HL4.out, List.append_assoc, snoc_list (k := 1) (by rw [sizeB_len]; omega) (by show ((8 * n / 2 ^ (56 - 8 * 1) % 256 : Nat) : Int) = _; simp only [Nat.reduceMul, Nat.reduceSub, Nat.reducePow]; omega)] at HO
            go_roundw
            case rel => exact ⟨2, by omega, rfl, HO.out, HB.out, HZ.out⟩
            case measure => simp [intOf]
          · go_wp2_with (first
              | ((with_reducible refine gate_dst (N := 39) rfl ?_); (try (refine gate_guard (by rfl) ?_; dsimp only)); refine lit_bytes (N := 39) ?hg ?hd [(n : Int) * 8 / 1099511627776] [.int .u8 ((n : Int) * 8 / 1099511627776)] rfl ?hr (by simp) ?_; (case hd => rfl); (case hg => rfl); (case hr => first | (go_simp; done) | (go_simp; rfl)); intro v w1 ho hb; have n1_ := Aside0.mk (Kd.R_below HO.out hb); have n2_ := Aside0.mk (below_step HB.out hb); have n3_ := Aside0.mk (blk_below HZ.out hb); clear HO HB HZ; have HO := n1_; have HB := n2_; have HZ := n3_; clear n1_ n2_ n3_ hb; obtain ⟨As, cs, rfl, hl_, hr_⟩ := Ob.reads ho; have HRs := Aside0.mk hr_; have HLs := Aside0.mk hl_; clear ho hl_ hr_)
              | ((with_reducible refine gate_builtin (b := .append) (xs := #[.tmp 31, .tmp 39]) rfl ?_); at_builtin; refine Kd.R_append_rows (Kd.int .u8) (w0 := w) w.heap.size rfl (.tmp 31) (.tmp 39) 22 5 (.int .u8 0) 1 rfl Try.underlying22 info_u8 rfl (by decide) (by omega) (.slice A4 L4.length c4) L4 [(n : Int) * 8 / 1099511627776] _ _ _ (fun _ => True) (fun _ => False) rfl rfl HO.out HRs.out (fun _ _ h => h) (fun _ h => h.elim) (fun _ _ => trivial) HB.out HB.out.size (by have := HMB.out; have := HM4.out; simp; omega) ?_; intro v6 w5 ho hb hg hat; have n1_ := Aside0.mk (blk_grown HZ.out hg (Kd.R_ne HO.out HZ.out (by decide))); have n2_ := Aside0.mk ho; have n3_ := Aside0.mk hb; clear HZ HO HB; have HZ := n1_; have HO := n2_; have HB := n3_; clear n1_ n2_ n3_ ho hb hg hat))
            rw [← HL4.out, List.append_assoc, snoc_list (k := 2) (by rw [sizeB_len]; omega) (by show ((8 * n / 2 ^ (56 - 8 * 2) % 256 : Nat) : Int) = _; simp only [Nat.reduceMul, Nat.reduceSub, Nat.reducePow]; omega)] at HO
            go_roundw
            case rel => exact ⟨3, by omega, rfl, HO.out, HB.out, HZ.out⟩
            case measure => simp [intOf]
          · go_wp2_with (first
              | ((with_reducible refine gate_dst (N := 39) rfl ?_); (try (refine gate_guard (by rfl) ?_; dsimp only)); refine lit_bytes (N := 39) ?hg ?hd [(n : Int) * 8 / 4294967296] [.int .u8 ((n : Int) * 8 / 4294967296)] rfl ?hr (by simp) ?_; (case hd => rfl); (case hg => rfl); (case hr => first | (go_simp; done) | (go_simp; rfl)); intro v w1 ho hb; have n1_ := Aside0.mk (Kd.R_below HO.out hb); have n2_ := Aside0.mk (below_step HB.out hb); have n3_ := Aside0.mk (blk_below HZ.out hb); clear HO HB HZ; have HO := n1_; have HB := n2_; have HZ := n3_; clear n1_ n2_ n3_ hb; obtain ⟨As, cs, rfl, hl_, hr_⟩ := Ob.reads ho; have HRs := Aside0.mk hr_; have HLs := Aside0.mk hl_; clear ho hl_ hr_)
              | ((with_reducible refine gate_builtin (b := .append) (xs := #[.tmp 31, .tmp 39]) rfl ?_); at_builtin; refine Kd.R_append_rows (Kd.int .u8) (w0 := w) w.heap.size rfl (.tmp 31) (.tmp 39) 22 5 (.int .u8 0) 1 rfl Try.underlying22 info_u8 rfl (by decide) (by omega) (.slice A4 L4.length c4) L4 [(n : Int) * 8 / 4294967296] _ _ _ (fun _ => True) (fun _ => False) rfl rfl HO.out HRs.out (fun _ _ h => h) (fun _ h => h.elim) (fun _ _ => trivial) HB.out HB.out.size (by have := HMB.out; have := HM4.out; simp; omega) ?_; intro v6 w5 ho hb hg hat; have n1_ := Aside0.mk (blk_grown HZ.out hg (Kd.R_ne HO.out HZ.out (by decide))); have n2_ := Aside0.mk ho; have n3_ := Aside0.mk hb; clear HZ HO HB; have HZ := n1_; have HO := n2_; have HB := n3_; clear n1_ n2_ n3_ ho hb hg hat))
            rw [← HL4.out, List.append_assoc, snoc_list (k := 3) (by rw [sizeB_len]; omega) (by show ((8 * n / 2 ^ (56 - 8 * 3) % 256 : Nat) : Int) = _; simp only [Nat.reduceMul, Nat.reduceSub, Nat.reducePow]; omega)] at HO
            go_roundw
            case rel => exact ⟨4, by omega, rfl, HO.out, HB.out, HZ.out⟩
            case measure => simp [intOf]
          · go_wp2_with (first
              | ((with_reducible refine gate_dst (N := 39) rfl ?_); (try (refine gate_guard (by rfl) ?_; dsimp only)); refine lit_bytes (N := 39) ?hg ?hd [(n : Int) * 8 / 16777216] [.int .u8 ((n : Int) * 8 / 16777216)] rfl ?hr (by simp) ?_; (case hd => rfl); (case hg => rfl); (case hr => first | (go_simp; done) | (go_simp; rfl)); intro v w1 ho hb; have n1_ := Aside0.mk (Kd.R_below HO.out hb); have n2_ := Aside0.mk (below_step HB.out hb); have n3_ := Aside0.mk (blk_below HZ.out hb); clear HO HB HZ; have HO := n1_; have HB := n2_; have HZ := n3_; clear n1_ n2_ n3_ hb; obtain ⟨As, cs, rfl, hl_, hr_⟩ := Ob.reads ho; have HRs := Aside0.mk hr_; have HLs := Aside0.mk hl_; clear ho hl_ hr_)
              | ((with_reducible refine gate_builtin (b := .append) (xs := #[.tmp 31, .tmp 39]) rfl ?_); at_builtin; refine Kd.R_append_rows (Kd.int .u8) (w0 := w) w.heap.size rfl (.tmp 31) (.tmp 39) 22 5 (.int .u8 0) 1 rfl Try.underlying22 info_u8 rfl (by decide) (by omega) (.slice A4 L4.length c4) L4 [(n : Int) * 8 / 16777216] _ _ _ (fun _ => True) (fun _ => False) rfl rfl HO.out HRs.out (fun _ _ h => h) (fun _ h => h.elim) (fun _ _ => trivial) HB.out HB.out.size (by have := HMB.out; have := HM4.out; simp; omega) ?_; intro v6 w5 ho hb hg hat; have n1_ := Aside0.mk (blk_grown HZ.out hg (Kd.R_ne HO.out HZ.out (by decide))); have n2_ := Aside0.mk ho; have n3_ := Aside0.mk hb; clear HZ HO HB; have HZ := n1_; have HO := n2_; have HB := n3_; clear n1_ n2_ n3_ ho hb hg hat))
            rw [← HL4.out, List.append_assoc, snoc_list (k := 4) (by rw [sizeB_len]; omega) (by show ((8 * n / 2 ^ (56 - 8 * 4) % 256 : Nat) : Int) = _; simp only [Nat.reduceMul, Nat.reduceSub, Nat.reducePow]; omega)] at HO
            go_roundw
            case rel => exact ⟨5, by omega, rfl, HO.out, HB.out, HZ.out⟩
            case measure => simp [intOf]
          · go_wp2_with (first
              | ((with_reducible refine gate_dst (N := 39) rfl ?_); (try (refine gate_guard (by rfl) ?_; dsimp only)); refine lit_bytes (N := 39) ?hg ?hd [(n : Int) * 8 / 65536] [.int .u8 ((n : Int) * 8 / 65536)] rfl ?hr (by simp) ?_; (case hd => rfl); (case hg => rfl); (case hr => first | (go_simp; done) | (go_simp; rfl)); intro v w1 ho hb; have n1_ := Aside0.mk (Kd.R_below HO.out hb); have n2_ := Aside0.mk (below_step HB.out hb); have n3_ := Aside0.mk (blk_below HZ.out hb); clear HO HB HZ; have HO := n1_; have HB := n2_; have HZ := n3_; clear n1_ n2_ n3_ hb; obtain ⟨As, cs, rfl, hl_, hr_⟩ := Ob.reads ho; have HRs := Aside0.mk hr_; have HLs := Aside0.mk hl_; clear ho hl_ hr_)
              | ((with_reducible refine gate_builtin (b := .append) (xs := #[.tmp 31, .tmp 39]) rfl ?_); at_builtin; refine Kd.R_append_rows (Kd.int .u8) (w0 := w) w.heap.size rfl (.tmp 31) (.tmp 39) 22 5 (.int .u8 0) 1 rfl Try.underlying22 info_u8 rfl (by decide) (by omega) (.slice A4 L4.length c4) L4 [(n : Int) * 8 / 65536] _ _ _ (fun _ => True) (fun _ => False) rfl rfl HO.out HRs.out (fun _ _ h => h) (fun _ h => h.elim) (fun _ _ => trivial) HB.out HB.out.size (by have := HMB.out; have := HM4.out; simp; omega) ?_; intro v6 w5 ho hb hg hat; have n1_ := Aside0.mk (blk_grown HZ.out hg (Kd.R_ne HO.out HZ.out (by decide))); have n2_ := Aside0.mk ho; have n3_ := Aside0.mk hb; clear HZ HO HB; have HZ := n1_; have HO := n2_; have HB := n3_; clear n1_ n2_ n3_ ho hb hg hat))
            rw [← HL4.out, List.append_assoc, snoc_list (k := 5) (by rw [sizeB_len]; omega) (by show ((8 * n / 2 ^ (56 - 8 * 5) % 256 : Nat) : Int) = _; simp only [Nat.reduceMul, Nat.reduceSub, Nat.reducePow]; omega)] at HO
            go_roundw
            case rel => exact ⟨6, by omega, rfl, HO.out, HB.out, HZ.out⟩
            case measure => simp [intOf]
          · go_wp2_with (first
              | ((with_reducible refine gate_dst (N := 39) rfl ?_); (try (refine gate_guard (by rfl) ?_; dsimp only)); refine lit_bytes (N := 39) ?hg ?hd [(n : Int) * 8 / 256 % 256] [.int .u8 ((n : Int) * 8 / 256 % 256)] rfl ?hr (by simp) ?_; (case hd => rfl); (case hg => rfl); (case hr => first | (go_simp; done) | (go_simp; rfl)); intro v w1 ho hb; have n1_ := Aside0.mk (Kd.R_below HO.out hb); have n2_ := Aside0.mk (below_step HB.out hb); have n3_ := Aside0.mk (blk_below HZ.out hb); clear HO HB HZ; have HO := n1_; have HB := n2_; have HZ := n3_; clear n1_ n2_ n3_ hb; obtain ⟨As, cs, rfl, hl_, hr_⟩ := Ob.reads ho; have HRs := Aside0.mk hr_; have HLs := Aside0.mk hl_; clear ho hl_ hr_)
              | ((with_reducible refine gate_builtin (b := .append) (xs := #[.tmp 31, .tmp 39]) rfl ?_); at_builtin; refine Kd.R_append_rows (Kd.int .u8) (w0 := w) w.heap.size rfl (.tmp 31) (.tmp 39) 22 5 (.int .u8 0) 1 rfl Try.underlying22 info_u8 rfl (by decide) (by omega) (.slice A4 L4.length c4) L4 [(n : Int) * 8 / 256 % 256] _ _ _ (fun _ => True) (fun _ => False) rfl rfl HO.out HRs.out (fun _ _ h => h) (fun _ h => h.elim) (fun _ _ => trivial) HB.out HB.out.size (by have := HMB.out; have := HM4.out; simp; omega) ?_; intro v6 w5 ho hb hg hat; have n1_ := Aside0.mk (blk_grown HZ.out hg (Kd.R_ne HO.out HZ.out (by decide))); have n2_ := Aside0.mk ho; have n3_ := Aside0.mk hb; clear HZ HO HB; have HZ := n1_; have HO := n2_; have HB := n3_; clear n1_ n2_ n3_ ho hb hg hat))
            rw [← HL4.out, List.append_assoc, snoc_list (k := 6) (by rw [sizeB_len]; omega) (by show ((8 * n / 2 ^ (56 - 8 * 6) % 256 : Nat) : Int) = _; simp only [Nat.reduceMul, Nat.reduceSub, Nat.reducePow]; omega)] at HO
            go_roundw
            case rel => exact ⟨7, by omega, rfl, HO.out, HB.out, HZ.out⟩
            case measure => simp [intOf]
          · go_wp2_with (first
              | ((with_reducible refine gate_dst (N := 39) rfl ?_); (try (refine gate_guard (by rfl) ?_; dsimp only)); refine lit_bytes (N := 39) ?hg ?hd [(n : Int) * 8 % 256] [.int .u8 ((n : Int) * 8 % 256)] rfl ?hr (by simp) ?_; (case hd => rfl); (case hg => rfl); (case hr => first | (go_simp; done) | (go_simp; rfl)); intro v w1 ho hb; have n1_ := Aside0.mk (Kd.R_below HO.out hb); have n2_ := Aside0.mk (below_step HB.out hb); have n3_ := Aside0.mk (blk_below HZ.out hb); clear HO HB HZ; have HO := n1_; have HB := n2_; have HZ := n3_; clear n1_ n2_ n3_ hb; obtain ⟨As, cs, rfl, hl_, hr_⟩ := Ob.reads ho; have HRs := Aside0.mk hr_; have HLs := Aside0.mk hl_; clear ho hl_ hr_)
              | ((with_reducible refine gate_builtin (b := .append) (xs := #[.tmp 31, .tmp 39]) rfl ?_); at_builtin; refine Kd.R_append_rows (Kd.int .u8) (w0 := w) w.heap.size rfl (.tmp 31) (.tmp 39) 22 5 (.int .u8 0) 1 rfl Try.underlying22 info_u8 rfl (by decide) (by omega) (.slice A4 L4.length c4) L4 [(n : Int) * 8 % 256] _ _ _ (fun _ => True) (fun _ => False) rfl rfl HO.out HRs.out (fun _ _ h => h) (fun _ h => h.elim) (fun _ _ => trivial) HB.out HB.out.size (by have := HMB.out; have := HM4.out; simp; omega) ?_; intro v6 w5 ho hb hg hat; have n1_ := Aside0.mk (blk_grown HZ.out hg (Kd.R_ne HO.out HZ.out (by decide))); have n2_ := Aside0.mk ho; have n3_ := Aside0.mk hb; clear HZ HO HB; have HZ := n1_; have HO := n2_; have HB := n3_; clear n1_ n2_ n3_ ho hb hg hat))
            rw [← HL4.out, List.append_assoc, snoc_list (k := 7) (by rw [sizeB_len]; omega) (by show ((8 * n / 2 ^ (56 - 8 * 7) % 256 : Nat) : Int) = _; simp only [Nat.reduceMul, Nat.reduceSub, Nat.reducePow]; omega)] at HO
            go_roundw
            case rel => exact ⟨8, by omega, rfl, HO.out, HB.out, HZ.out⟩
            case measure => simp [intOf]
        · have HKE := Aside0.mk (show k = 8 by omega)
          have hge : 8 ≤ k := by omega
          have hdk : decide ((k : Int) < 8) = false := decide_eq_false (by omega)
          have HPAD := Aside0.mk (show L4 = t ++ padB n by
            rw [← HL4.out, HKE.out, List.take_of_length_le (by rw [sizeB_len]; omega), ← HLE.out, HGK.out, ← HZZ.out, padB]
            simp)
          have HC4 := Aside0.mk hc4
          have HLU := Aside0.mk (show ∀ x ∈ L4, 0 ≤ x ∧ x ≤ 255 by rw [HPAD.out]; exact pad_u8 HU.out n)
          obtain ⟨qq, hq8⟩ := HM8.out
          have HQ := Aside0.mk (show L4.length = 64 * qq by rw [hm4]; omega)
          have HQB := Aside0.mk (show qq ≤ 20000 by have := HMB.out; omega)
          clear hlt hk hinv hL4 hm4 hc4 hr4 hq8
          go_wp2_with (fail)
          have H0 := Aside0.mk (show SOI w L4 A4 wr.heap.size 0 (wr.alloc (.cells #[.int .u32 1779033703, .int .u32 3144134277, .int .u32 1013904242, .int .u32 2773480762, .int .u32 1359893119, .int .u32 2600822924, .int .u32 528734635, .int .u32 1541459225] 36)) from
            ⟨Kd.C_below HR4.out (below_alloc (Below.refl _ _) _), fun a ha h0 => reads_lt HR4.out a ha h0, below_alloc HB.out _, blk_alloc HZ.out _, by exact blk_new _ _, blk_lt HZ.out⟩)
          obtain ⟨mm, hmm⟩ : ∃ mm, L4.length = mm := ⟨_, rfl⟩
          obtain ⟨p, hp⟩ : ∃ p, wr.heap.size = p := ⟨_, rfl⟩
          have HMM := Aside0.mk hmm
          rw [hmm, hp]
          rw [hp] at H0
          clear hge hdk HB HZ HO HR4 hmm hp
          go_loopw [7] (fun i wx => ∃ j x : Nat, x = 64 * j ∧ j ≤ qq ∧ i = .int .i64 x ∧ SOI w L4 A4 p j wx) (fun i _ => mm - (intOf i).toNat)
          case atStart => exact ⟨0, 0, by omega, by omega, rfl, H0.out⟩
          case round =>
            clear H0
            obtain ⟨j, x, hx, hj, rfl, hinv⟩ := hrel
            have HI := Aside0.mk hinv
            have HX := Aside0.mk hx
            by_cases hlt : j < qq
            · have hm := HMM.out
              have hc := HC4.out
              have hq := HQ.out
              have hqb := HQB.out
              have g1 : (x : Int) < (mm : Int) := by omega
              have g2 : (x : Int) + 64 ≤ (c4 : Int) := by omega
              have g3 : (0 : Int) ≤ (x : Int) := by omega
              have g4 : (x : Int) ≤ 2000000 := by omega
              obtain ⟨D, hD⟩ : ∃ D, (nums .u32 (blocks L4 j)).toArray = D := ⟨_, rfl⟩
              have HD := Aside0.mk hD
              have h2 := hinv.2.2.2.2.1
              unfold Words at h2
              rw [hD] at h2
              have H2 := Aside0.mk (show wr.drew.heap[p]? = some (.cells D 36 (0, 0)) from h2)
              have HIF := Aside0.mk (show (Try.prog.info? 36).map (·.size) = some D.size by rw [← hD, show (nums .u32 (blocks L4 j)).toArray.size = 8 by simp [nums, blocks_len]]; exact info_8)
              clear hD h2
              have g5 : IntKind.i64.wrap ((x : Int) + 64) = (x : Int) + 64 := IntWalk.i64_in _ (by omega)
              have g6 : (0 : Int) ≤ (x : Int) + 64 := by omega
              have g7 : ((x : Int) + 64).toNat = x + 64 := by omega
              have g8 : ¬ c4 = x := by omega
              have g9 : x + 64 - x = 64 := by omega
              have HG := Aside0.mk (show x + 64 ≤ mm by omega)
              clear hm hc hq hqb hinv hx hj hlt
              go_wp2
              go_still_tail 6, (by kernel_rfl)
              change wpStill _ _ wr.drew _ _ _
              refine still_load_row rfl 36 (.tmp 6) rfl p rfl 36 D (0, 0) _ H2.out Try.underlying36 rfl HIF.out ?_
              repeat still_step
              refine wpStill_nil ?_
              change wpList _ _ _ _ _ wr.drew
              have HSB := Aside0.mk (show SOI w L4 A4 p j wr.drew from ⟨HI.out.1, HI.out.2.1, below_drew1 HI.out.2.2.1, HI.out.2.2.2⟩)
              have hcall := (block_c (A4.map (·.add x)) (c4 - x) ((L4.drop x).take 64) (blocks L4 j) wr.drew (rb_part HSB.out.1 x 64 c4 HC4.out (by have := HMM.out; have := HG.out; omega) (by have := HG.out; have := HMM.out; have := HC4.out; omega)) (by have := HG.out; have := HMM.out; have := HC4.out; omega) (by rw [List.length_take, List.length_drop]; have := HMM.out; have := HG.out; omega) (fun i hi => by
                have := part_u8 (HLU.out) x 64 i
                exact this) (blocks_len _ _) (blocks_u32 _ _))
              rw [show wordsV (blocks L4 j) = .agg D by rw [← HD.out]] at hcall
              have HCALL := Aside0.mk hcall
              clear hcall g1 g2 g3 g5 g6 g7 g8 g9
              go_wp2_with (fail)
              refine HCALL.out.mono ?_
              rintro e w2 ⟨rfl, h2⟩
              rw [show press (blocks L4 j) ((L4.drop x).take 64) = blocks L4 (j + 1) by rw [HX.out]; rfl]
              obtain ⟨D', hD'⟩ : ∃ D', (nums .u32 (blocks L4 (j + 1))).toArray = D' := ⟨_, rfl⟩
              have HD' := Aside0.mk hD'
              have hds : D'.size = 8 := by rw [← hD']; simp [nums, blocks_len]
              have HOL := Aside0.mk (show w2.heap[p]? = some (.cells D 36 (0, 0)) from blk_below H2.out h2)
              have HIF' := Aside0.mk (show (Try.prog.info? 36).map (·.size) = some D'.size by rw [hds]; exact info_8)
              have HSZ := Aside0.mk (show D.size = D'.size by rw [hds, ← HD.out]; simp [nums, blocks_len])
              have HONE := Aside0.mk (show D'.all (·.oneCell') = true by rw [← hD']; exact nums_one _ _)
              have H2B := Aside0.mk h2
              rw [show wordsV (blocks L4 (j + 1)) = .agg D' from by rw [← hD']]
              clear hD' hds h2 HSB
              go_wp2_with (first
                | ((with_reducible refine gate_store (t := 36) (p := 6) (v := .tmp 54) rfl ?_); refine wpList_store_row rfl 36 (.tmp 6) (.tmp 54) rfl p D' rfl rfl 36 D HOL.out HIF'.out HSZ.out HONE.out ?_))
              go_roundw
              case rel => exact ⟨j + 1, x + 64, by have := HX.out; omega, by have := HG.out; have := HQ.out; have := HX.out; have := HMM.out; omega, by go_num, SOI.next HI.out (below_drew_of H2B.out) HD'.out.symm⟩
              case measure => have := HG.out; simp [intOf]; omega
            · have HJ := Aside0.mk (show j = qq by omega)
              have hge : mm ≤ x := by have := HMM.out; have := HQ.out; omega
              have hdk : decide ((x : Int) < (mm : Int)) = false := decide_eq_false (by omega)
              clear hx hj hlt hinv
              go_wp2_with (fail)
              obtain ⟨s, hs⟩ : ∃ s, blocks L4 j = s := ⟨_, rfl⟩
              have HS := Aside0.mk hs
              have HSL := Aside0.mk (show s.length = 8 by rw [← hs]; exact blocks_len _ _)
              have HSU := Aside0.mk (show U32 s by rw [← hs]; exact blocks_u32 _ _)
              have HFIN := Aside0.mk (show shaB t = outB s by
                have e : t ++ padB t.length = L4 := by rw [HN.out]; exact HPAD.out.symm
                rw [shaB_eq t qq (by rw [e]; exact HQ.out), e, ← HJ.out, hs])
              obtain ⟨p8, hp8⟩ : ∃ x, wr.heap.size = x := ⟨_, rfl⟩
              have H8 := Aside0.mk (show RI w p p8 s 0 (wr.alloc (.cells Z32 24)) from ⟨by rw [← hs]; exact blk_alloc HI.out.2.2.2.2.1 _, below_alloc HI.out.2.2.1 _, blk_alloc HI.out.2.2.2.1 _, by rw [← hp8]; exact blk_new _ _, by rw [← hp8]; exact blk_lt HI.out.2.2.2.2.1, HI.out.2.2.2.2.2⟩)
              rw [hp8]
              clear hge hdk hs hp8 HI
              go_loopw [9] (fun i wx => ∃ m : Nat, m ≤ 32 ∧ i = .int .i64 m ∧ RI w p p8 s m wx) (fun i _ => 32 - (intOf i).toNat)
              case atStart => exact ⟨0, by omega, rfl, H8.out⟩
              case round =>
                clear H8
                obtain ⟨m, hm, rfl, hinv⟩ := hrel
                have HO := Aside0.mk hinv
                by_cases hlt : m < 32
                · obtain ⟨q, hq⟩ : ∃ q, m / 4 = q := ⟨_, rfl⟩
                  have HQ4 := Aside0.mk hq
                  have hc := hinv.1.cell q (by rw [HSL.out]; omega)
                  have hxr := HSU.out.at q
                  have hcell : wr.cell? ⟨p8, m, none⟩ = some (.int .u8 ((outN s m).getD m 0)) := by
                    rw [blk_cell hinv.2.2.2.1 m]
                    simp [nums, List.getElem?_eq_getElem (show m < (outN s m).length by rw [outN_len]; omega), List.getD_eq_getElem?_getD]
                  have hfree := blk_frozen hinv.2.2.2.1 m
                  obtain ⟨y, hy⟩ : ∃ x, s.getD q 0 = x := ⟨_, rfl⟩
                  obtain ⟨old, hold⟩ : ∃ x, (outN s m).getD m 0 = x := ⟨_, rfl⟩
                  rw [hy] at hc hxr
                  rw [hold] at hcell
                  have HY := Aside0.mk hy
                  have x0 := hxr.1
                  have x1 := hxr.2
                  have hqi : (m : Int) / 4 = (q : Int) := by omega
                  have q0 : (0 : Int) ≤ (q : Int) := by omega
                  have q1 : (q : Int) < 8 := by omega
                  have m0 : (0 : Int) ≤ (m : Int) := by omega
                  have m1 : (m : Int) < 32 := by omega
                  have hr4 : m % 4 = 0 ∨ m % 4 = 1 ∨ m % 4 = 2 ∨ m % 4 = 3 := by omega
                  clear hinv hold hxr hq hy
                  rcases hr4 with hr4 | hr4 | hr4 | hr4
                  · have hri : (m : Int) % 4 = 0 := by omega
                    have HR4 := Aside0.mk hr4
                    clear hr4
                    go_wp2
                    go_roundw
                    case rel => exact ⟨m + 1, by omega, by go_num, HO.out.next (by rw [HQ4.out, HY.out, HR4.out]; simp only [Nat.reduceMul, Nat.reduceSub, Int.reducePow] <;> omega)⟩
                    case measure => simp [intOf]; omega
                  · have hri : (m : Int) % 4 = 1 := by omega
                    have HR4 := Aside0.mk hr4
                    clear hr4
                    go_wp2
                    go_roundw
                    case rel => exact ⟨m + 1, by omega, by go_num, HO.out.next (by rw [HQ4.out, HY.out, HR4.out]; simp only [Nat.reduceMul, Nat.reduceSub, Int.reducePow] <;> omega)⟩
                    case measure => simp [intOf]; omega
                  · have hri : (m : Int) % 4 = 2 := by omega
                    have HR4 := Aside0.mk hr4
                    clear hr4
                    go_wp2
                    go_roundw
                    case rel => exact ⟨m + 1, by omega, by go_num, HO.out.next (by rw [HQ4.out, HY.out, HR4.out]; simp only [Nat.reduceMul, Nat.reduceSub, Int.reducePow] <;> omega)⟩
                    case measure => simp [intOf]; omega
                  · have hri : (m : Int) % 4 = 3 := by omega
                    have HR4 := Aside0.mk hr4
                    clear hr4
                    go_wp2
                    go_roundw
                    case rel => exact ⟨m + 1, by omega, by go_num, HO.out.next (by rw [HQ4.out, HY.out, HR4.out]; simp only [Nat.reduceMul, Nat.reduceSub, Int.reducePow] <;> omega)⟩
                    case measure => simp [intOf]; omega
                · have HM := Aside0.mk (show m = 32 by omega)
                  have hge : 32 ≤ m := by omega
                  obtain ⟨D, hD⟩ : ∃ D, (nums .u8 (outN s m)).toArray = D := ⟨_, rfl⟩
                  obtain ⟨Z, hZ⟩ : ∃ Z, Z32 = Z := ⟨_, rfl⟩
                  have h3 := hinv.2.2.2.1
                  have h2 := hinv.2.2.1
                  rw [hD] at h3
                  rw [hZ] at h2
                  have H3 := Aside0.mk h3
                  have H2 := Aside0.mk h2
                  have hds : D.size = 32 := by rw [← hD]; simp [nums, outN_len]
                  have hzs : Z.size = D.size := by rw [hds, ← hZ]; simp [Z32, nums]
                  have HIX := Aside0.mk (show (Try.prog.info? 24).map (·.size) = some D.size by rw [hds]; exact info_32)
                  have HZS := Aside0.mk hzs
                  have HONE := Aside0.mk (show D.all (·.oneCell') = true by rw [← hD]; exact nums_one _ _)
                  have HBL := Aside0.mk (And.intro hinv.2.1 hinv.2.2.2.2.2)
                  have HFI := Aside0.mk (show D = (nums .u8 (shaB t)).toArray by rw [← hD, HM.out, HFIN.out]; rfl)
                  clear hD hZ h3 h2 hds hzs hlt hm hinv
                  go_wp2_with (first
                    | ((with_reducible refine gate_dst (N := 72) rfl ?_); refine wpList_load_row rfl 24 (.tmp 8) rfl p8 rfl 24 D (0, 0) _ H3.out Try.underlying24 rfl HIX.out ?_)
                    | ((with_reducible refine gate_store (t := 24) (p := 2) (v := .tmp 72) rfl ?_); refine wpList_store_row rfl 24 (.tmp 2) (.tmp 72) rfl w.heap.size D rfl rfl 24 Z H2.out HIX.out HZS.out HONE.out ?_))
                  have HSR := setRow_heap wr w.heap.size Z D _ _ H2.out
                  refine bodyPost_ret (v := .agg D) (results_cell_row rfl _ _ w.heap.size 24 D (0, 0) _ rfl HSR Try.underlying24 rfl HIX.out) rfl ⟨by rw [HFI.out], below_setRow HBL.out.1 (Nat.le_refl _) D⟩
    · have hbq : ((qq : Int) == 56) = false := by simp; omega
      have hbn : ((qq : Int) != 56) = true := by simp; omega
      have HGK := Aside0.mk (show 0 < gk by omega)
      have HGZ := Aside0.mk hgk
      have HMB := Aside0.mk (show L.length ≤ 2000000 by have := HL.out; have := HN.out; omega)
      clear hinv hLe hlen hm hqq h56 hz hgk hc3 hr3
      go_wp2_with (first
        | ((with_reducible refine gate_dst (N := 21) rfl ?_); (try (refine gate_guard (by rfl) ?_; dsimp only)); refine lit_bytes (N := 21) ?hg ?hd [0] [.int .u8 (0)] rfl ?hr (by simp) ?_; (case hd => rfl); (case hg => rfl); (case hr => first | (go_simp; done) | (go_simp; rfl)); intro v w1 ho hb; have n1_ := Aside0.mk (Kd.R_below HO.out hb); have n2_ := Aside0.mk (below_step HB.out hb); have n3_ := Aside0.mk (blk_below HZ.out hb); clear HO HB HZ; have HO := n1_; have HB := n2_; have HZ := n3_; clear n1_ n2_ n3_ hb; obtain ⟨Ar, cr, rfl, hl_, hr_⟩ := Ob.reads ho; have HRr := Aside0.mk hr_; have HLr := Aside0.mk hl_; clear ho hl_ hr_)
        | ((with_reducible refine gate_builtin (b := .append) (xs := #[.tmp 20, .tmp 21]) rfl ?_); at_builtin; refine Kd.R_append_rows (Kd.int .u8) (w0 := w) w.heap.size rfl (.tmp 20) (.tmp 21) 22 5 (.int .u8 0) 1 rfl Try.underlying22 info_u8 rfl (by decide) (by omega) (.slice A3 m c3) L [0] _ _ _ (fun _ => True) (fun _ => False) rfl rfl HO.out HRr.out (fun _ _ h => h) (fun _ h => h.elim) (fun _ _ => trivial) HB.out HB.out.size (by have := HMB.out; simp; omega) ?_; intro v4 w5 ho hb hg hat; have n1_ := Aside0.mk (blk_grown HZ.out hg (Kd.R_ne HO.out HZ.out (by decide))); have n2_ := Aside0.mk ho; have n3_ := Aside0.mk hb; clear HZ HO HB; have HZ := n1_; have HO := n2_; have HB := n3_; clear n1_ n2_ n3_ ho hb hg hat))
      go_roundg (gk - 1)
      case measure => have := HGK.out; omega
      case rel =>
        refine ⟨by have := HGZ.out; omega, ?_⟩
        rw [show z - (gk - 1) = (z - gk) + 1 from by have := HGZ.out; have := HGK.out; omega, List.replicate_succ', ← List.append_assoc, HLE.out]
        exact ⟨HO.out, HB.out, HZ.out⟩
end Go.Proofs.Ytbebkogkeepfoaa.Sha
/- What an argument reads as, opened kind by kind: out of the form's reading a value of the kind, whose cells it has. -/
namespace Go.Proofs.Ytbebkogkeepfoaa.Open
open Go.Proofs.Ytbebkogkeepfoaa.Base Go.RowKit Go.Proofs.YtbebkogkeepfoaaW.PrintWords Go.Proofs.YtbebkogkeepfoaaW.PrintLast Go.Proofs.YtbebkogkeepfoaaW.PrintMore

/-- With so much fuel, what type t reads as is a value of kind d. -/
def OpensN (P : Program) (n : Nat) (t : TypeId) {α : Type} (d : Kd α) (ok : α → Prop) : Prop :=
  ∀ (H : Type) (enc : TypeId × Value → H) (w : World) (base : Nat) (held : Bool) (cs : List Value) (x : DataW H × List MemPlace), DataW.trod enc P w base (fun _ => true) held n t cs = some x → ∃ v, d.K w v cs ∧ ok v
def Opens (P : Program) (t : TypeId) {α : Type} (d : Kd α) (ok : α → Prop) : Prop := ∀ n, OpensN P n t d ok

theorem opens_int {P : Program} {t : TypeId} {k : IntKind} (ht : P.underlying t = some (.int k)) : Opens P t (Kd.int k) (fun v => (Lit.int k v).wf = true) := by
  intro n H enc w base held cs x h
  obtain ⟨v, rfl, hw, _⟩ : ∃ v, cs = [.int k v] ∧ (Lit.int k v).wf = true ∧ True := by
    cases n with
    | zero => simp [DataW.trod] at h
    | succ n =>
      unfold DataW.trod at h
      rw [ht] at h
      split at h <;> simp_all
  exact ⟨v, rfl, hw⟩
theorem choose_list {α : Type} {p : Nat → α → Prop} : ∀ n, (∀ i, i < n → ∃ v, p i v) → ∃ xs : List α, xs.length = n ∧ ∀ i v, xs[i]? = some v → p i v := by
  intro n
  induction n with
  | zero => intro _; exact ⟨[], rfl, fun i v h => by simp at h⟩
  | succ n ih =>
    intro h
    obtain ⟨xs, hl, hx⟩ := ih (fun i hi => h i (by omega))
    obtain ⟨v, hv⟩ := h n (by omega)
    refine ⟨xs ++ [v], by simp [hl], fun i u hu => ?_⟩
    rcases Nat.lt_or_ge i xs.length with hi | hi
    · rw [List.getElem?_append_left hi] at hu; exact hx i u hu
    · have hi' : i = n := by
        have := (List.getElem?_eq_some_iff.1 hu).1
        rw [List.length_append, List.length_singleton] at this
        omega
      subst hi'
      have : v = u := by rw [← hl] at hu; simpa using hu
      subst this
      exact hv
theorem opensN_slice {P : Program} {n : Nat} {t e : TypeId} {α : Type} {d : Kd α} {ok : α → Prop} (ht : P.underlying t = some (.slice e)) (hc : P.cellsOf e = d.sz) (hd : OpensN P n e d ok) : OpensN P (n + 1) t (Kd.slice e d) (fun xs => ∀ x ∈ xs, ok x) := by
  intro H enc w base held cs x h
  rcases DataW.trod_slice ht h with ⟨rfl, _⟩ | ⟨a, len, cap, elems, rest, m, hm, rfl, _, hb, hl, hmx, hel, hi, _⟩
  · exact ⟨[], ⟨none, 0, rfl, by simp, Kd.C_nil _ _⟩, fun x hx => by cases hx⟩
  · have hmn : m = n := by omega
    subst hmn
    obtain ⟨xs, hxl, hxs⟩ := choose_list (α := α) (p := fun i v => ok v ∧ ∃ c, c.length = d.sz ∧ d.K w v c ∧ ∀ j u, c[j]? = some u → w.cell? (a.add (i * d.sz + j)) = some u) len (fun i hil => by
      have h1 := hi i hil
      rw [List.getElem?_eq_getElem (by omega)] at h1
      obtain ⟨cs', h2, h3⟩ := Option.bind_eq_some_iff.1 h1
      obtain ⟨v, hv, hok⟩ := hd _ _ _ _ _ _ _ h3
      obtain ⟨_, h4, h5⟩ := World.cells?_some h2
      refine ⟨v, hok, cs', by rw [h4, hc], hv, fun j u hu => ?_⟩
      have hj : j < cs'.length := (List.getElem?_eq_some_iff.1 hu).1
      have h6 := h5 j (by omega)
      rw [hu, hc] at h6
      rw [← h6, Addr.add_add])
    refine ⟨xs, ⟨some a, cap, by rw [hxl], by omega, ?_⟩, fun x hx => ?_⟩
    · refine ⟨rfl, ?_, fun _ => ⟨a, rfl, fun j p hj => ?_⟩⟩
      · rw [hxl]; simp only [maxLen] at hmx; omega
      · exact (hxs j p hj).2
    · obtain ⟨i, hi, rfl⟩ := List.mem_iff_getElem.1 hx
      exact (hxs i _ (List.getElem?_eq_getElem hi)).1
theorem opens_slice {P : Program} {t e : TypeId} {α : Type} {d : Kd α} {ok : α → Prop} (ht : P.underlying t = some (.slice e)) (hc : P.cellsOf e = d.sz) (hd : Opens P e d ok) : Opens P t (Kd.slice e d) (fun xs => ∀ x ∈ xs, ok x) := by
  intro n
  cases n with
  | zero => intro H enc w base held cs x h; simp [DataW.trod] at h
  | succ n => exact opensN_slice ht hc (hd n)
/-- The fields of a struct from offset o on. -/
def OpensF (P : Program) (n : Nat) (fs : List Field) (o : Nat) {α : Type} (d : Kd α) (ok : α → Prop) : Prop :=
  ∀ (H : Type) (enc : TypeId × Value → H) (w : World) (base : Nat) (held : Bool) (cs : List Value) (xs : List (DataW H × List MemPlace)),
    cs.length = o + d.sz → fs.mapM (fun f => DataW.trod enc P w base (fun _ => true) held n f.type ((cs.drop f.offset).take (P.cellsOf f.type))) = some xs → ∃ v, d.K w v (cs.drop o) ∧ ok v
theorem opensF_one {P : Program} {n : Nat} {f : Field} {o : Nat} {α : Type} {d : Kd α} {ok : α → Prop} (ho : f.offset = o) (hc : P.cellsOf f.type = d.sz) (hd : OpensN P n f.type d ok) : OpensF P n [f] o d ok := by
  intro H enc w base held cs xs hl h
  have h1 := mapM_some_get h 0 f rfl
  cases hx : xs[0]? with
  | none => rw [List.getElem?_eq_none_iff] at hx; have := mapM_some_length h; simp at this; omega
  | some y =>
    rw [hx, ho, List.take_of_length_le (by rw [List.length_drop]; omega)] at h1
    exact hd _ _ _ _ _ _ _ h1
theorem opensF_cons {P : Program} {n : Nat} {f : Field} {fs : List Field} {o : Nat} {α β : Type} {d : Kd α} {d2 : Kd β} {ok : α → Prop} {ok2 : β → Prop} (ho : f.offset = o) (hc : P.cellsOf f.type = d.sz) (hd : OpensN P n f.type d ok) (hr : OpensF P n fs (o + d.sz) d2 ok2) : OpensF P n (f :: fs) o (Kd.pair d d2) (fun v => ok v.1 ∧ ok2 v.2) := by
  intro H enc w base held cs xs hl h
  rw [List.mapM_cons] at h
  obtain ⟨y, h1, h2⟩ := Option.bind_eq_some_iff.1 h
  obtain ⟨ys, h3, h4⟩ := Option.bind_eq_some_iff.1 h2
  have hsz : (Kd.pair d d2).sz = d.sz + d2.sz := rfl
  rw [ho, hc] at h1
  obtain ⟨v1, k1, o1⟩ := hd _ _ _ _ _ _ _ h1
  obtain ⟨v2, k2, o2⟩ := hr _ _ _ _ _ _ _ (by rw [hl, hsz]; omega) h3
  refine ⟨(v1, v2), ⟨(cs.drop o).take d.sz, cs.drop (o + d.sz), ?_, k1, k2⟩, o1, o2⟩
  rw [← List.drop_drop, List.take_append_drop]
theorem opensN_struct {P : Program} {n : Nat} {t : TypeId} {fs : Array Field} {α : Type} {d : Kd α} {ok : α → Prop} (ht : P.underlying t = some (.struct fs)) (hc : P.cellsOf t = d.sz) (hd : OpensF P n fs.toList 0 d ok) : OpensN P (n + 1) t d ok := by
  intro H enc w base held cs x h
  unfold DataW.trod at h
  rw [ht] at h
  have h' : (if cs.length = P.cellsOf t then (fs.toList.mapM fun f => DataW.trod enc P w base (fun _ => true) held n f.type ((cs.drop f.offset).take (P.cellsOf f.type))).map fun xs => (DataW.agg (xs.map (·.1)), xs.flatMap (·.2)) else none) = some x := by
    revert h
    split <;> simp_all
  split at h'
  · next hl =>
    obtain ⟨xs, h1, _⟩ := Option.map_eq_some_iff.1 h'
    have := hd _ _ _ _ _ _ _ (by rw [hl, hc]; omega) h1
    simpa using this
  · cases h'
theorem opens_struct {P : Program} {t : TypeId} {fs : Array Field} {α : Type} {d : Kd α} {ok : α → Prop} (ht : P.underlying t = some (.struct fs)) (hc : P.cellsOf t = d.sz) (hd : ∀ n, OpensF P n fs.toList 0 d ok) : Opens P t d ok := by
  intro n
  cases n with
  | zero => intro H enc w base held cs x h; simp [DataW.trod] at h
  | succ n => exact opensN_struct ht hc (hd n)
/-- An argument, opened. -/
theorem Opens.arg {P : Program} {t : TypeId} {α : Type} {d : Kd α} {ok : α → Prop} (h : Opens P t d ok) {H : Type} {enc : TypeId × Value → H} {w : World} {base : Nat} {held : Bool} {v : Value} {D : DataW H} {ps : List MemPlace} (ht : DataW.Trod enc P w base (fun _ => true) held t v D ps) : ∃ x, d.K w x v.cells.toList ∧ ok x := by
  obtain ⟨n, hn⟩ := ht
  exact h n _ _ _ _ _ _ _ hn
end Go.Proofs.Ytbebkogkeepfoaa.Open
/- commit: sum walked. -/
namespace Go.Proofs.Ytbebkogkeepfoaa.Com
set_option linter.unusedVariables false
set_option linter.unusedSimpArgs false
open Go.RowKit Go.Proofs.Ytbebkogkeepfoaa.Base Go.Proofs.Ytbebkogkeepfoaa.ShaPlain Go.Proofs.Ytbebkogkeepfoaa.Sha Go.Proofs.Ytbebkogkeepfoaa.Aid Go.Proofs.YtbebkogkeepfoaaW.PrintWords Go.Proofs.YtbebkogkeepfoaaW.PrintLast Go.Proofs.YtbebkogkeepfoaaW.PrintMore
/-- What lies in the cells of rows, and what it reads as. -/
def IsRow (w : World) (l : List (List Int)) (vs : List (List Value)) : Prop := vs.length = l.length ∧ ∀ (j : Nat) (b : List Int), l[j]? = some b → ∃ (A : Option Addr) (c : Nat), vs[j]? = some [Value.slice A b.length c] ∧ b.length ≤ c ∧ Rb w A b
theorem IsRow.below {w w1 : World} {l : List (List Int)} {vs : List (List Value)} (h : IsRow w l vs) (hb : Below w.heap.size w w1) : IsRow w1 l vs :=
  ⟨h.1, fun j b hj => by obtain ⟨A, c, h1, h2, h3⟩ := h.2 j b hj; exact ⟨A, c, h1, h2, Kd.C_below h3 hb⟩⟩
theorem IsRow.cons {w : World} {l : List (List Int)} {vs : List (List Value)} {b : List Int} {A : Option Addr} {c : Nat} (h : IsRow w l vs) (hr : Rb w A b) (hc : b.length ≤ c) : IsRow w (b :: l) ([.slice A b.length c] :: vs) := by
  refine ⟨by simp [h.1], fun j x hj => ?_⟩
  cases j with
  | zero =>
    injection hj with hj
    subst hj
    exact ⟨A, c, rfl, hc, hr⟩
  | succ j => exact h.2 j x hj
end Go.Proofs.Ytbebkogkeepfoaa.Com
/- What a reader of bytes answers, in plain words: its state is the bytes that are left, or that it failed. -/
namespace Go.Proofs.Ytbebkogkeepfoaa.TlvPlain
open Go.Proofs.Ytbebkogkeepfoaa.Base Go.RowKit Go.Proofs.YtbebkogkeepfoaaW.PrintWords

def U8 (b : List Int) : Prop := ∀ x ∈ b, 0 ≤ x ∧ x ≤ 255
theorem U8.take {b : List Int} (h : U8 b) (n : Nat) : U8 (b.take n) := fun x hx => h x (List.mem_of_mem_take hx)
theorem U8.drop {b : List Int} (h : U8 b) (n : Nat) : U8 (b.drop n) := fun x hx => h x (List.mem_of_mem_drop hx)
theorem U8.nil : U8 [] := fun _ h => by cases h
theorem U8.append {a b : List Int} (h : U8 a) (k : U8 b) : U8 (a ++ b) := fun x hx => (List.mem_append.1 hx).elim (h x) (k x)
theorem U8.cons {x : Int} {b : List Int} (h : 0 ≤ x ∧ x ≤ 255) (k : U8 b) : U8 (x :: b) := fun y hy => (List.mem_cons.1 hy).elim (fun e => e ▸ h) (k y)
end Go.Proofs.Ytbebkogkeepfoaa.TlvPlain
-- printed for this claim by a program (pall.sh)
-- mended by fixpz.py
namespace Go.Proofs.Ytbebkogkeepfoaa.PZ
open Go.RowKit Go.Proofs.YtbebkogkeepfoaaW.PrintWords Go.Proofs.YtbebkogkeepfoaaW.PrintLast Go.Proofs.YtbebkogkeepfoaaW.PrintMore
attribute [local go_sem] max2_int min2_int max_two min_two max_three min_three max_four min_four   -- for this text's walks alone
set_option linter.unusedVariables false
set_option linter.unusedSimpArgs false



-- the values' own types

end Go.Proofs.Ytbebkogkeepfoaa.PZ
-- printed for this claim by a program (pall.sh)
-- mended by fixpz.py
namespace Go.Proofs.Ytbebkogkeepfoaa.PZ
open Go.RowKit Go.Proofs.YtbebkogkeepfoaaW.PrintWords Go.Proofs.YtbebkogkeepfoaaW.PrintLast Go.Proofs.YtbebkogkeepfoaaW.PrintMore
attribute [local go_sem] max2_int min2_int max_two min_two max_three min_three max_four min_four   -- for this text's walks alone
set_option linter.unusedVariables false
set_option linter.unusedSimpArgs false

end Go.Proofs.Ytbebkogkeepfoaa.PZ
-- printed for this claim by a program (pall.sh)
-- mended by fixpz.py
namespace Go.Proofs.Ytbebkogkeepfoaa.PZ
open Go.RowKit Go.Proofs.YtbebkogkeepfoaaW.PrintWords Go.Proofs.YtbebkogkeepfoaaW.PrintLast Go.Proofs.YtbebkogkeepfoaaW.PrintMore
attribute [local go_sem] max2_int min2_int max_two min_two max_three min_three max_four min_four   -- for this text's walks alone
set_option linter.unusedVariables false
set_option linter.unusedSimpArgs false

end Go.Proofs.Ytbebkogkeepfoaa.PZ
-- printed for this claim by a program (pall.sh)
-- mended by fixpz.py
namespace Go.Proofs.Ytbebkogkeepfoaa.PZ
open Go.RowKit Go.Proofs.YtbebkogkeepfoaaW.PrintWords Go.Proofs.YtbebkogkeepfoaaW.PrintLast Go.Proofs.YtbebkogkeepfoaaW.PrintMore
attribute [local go_sem] max2_int min2_int max_two min_two max_three min_three max_four min_four   -- for this text's walks alone
set_option linter.unusedVariables false
set_option linter.unusedSimpArgs false

end Go.Proofs.Ytbebkogkeepfoaa.PZ
-- printed for this claim by a program (pall.sh)
-- mended by fixpz.py
namespace Go.Proofs.Ytbebkogkeepfoaa.PZ
open Go.RowKit Go.Proofs.YtbebkogkeepfoaaW.PrintWords Go.Proofs.YtbebkogkeepfoaaW.PrintLast Go.Proofs.YtbebkogkeepfoaaW.PrintMore
attribute [local go_sem] max2_int min2_int max_two min_two max_three min_three max_four min_four   -- for this text's walks alone
set_option linter.unusedVariables false
set_option linter.unusedSimpArgs false

end Go.Proofs.Ytbebkogkeepfoaa.PZ
-- printed for this claim by a program (pall.sh)
-- mended by fixpz.py
namespace Go.Proofs.Ytbebkogkeepfoaa.PZ
open Go.RowKit Go.Proofs.YtbebkogkeepfoaaW.PrintWords Go.Proofs.YtbebkogkeepfoaaW.PrintLast Go.Proofs.YtbebkogkeepfoaaW.PrintMore
attribute [local go_sem] max2_int min2_int max_two min_two max_three min_three max_four min_four   -- for this text's walks alone
set_option linter.unusedVariables false
set_option linter.unusedSimpArgs false

end Go.Proofs.Ytbebkogkeepfoaa.PZ
-- printed for this claim by a program (pall.sh)
-- mended by fixpz.py
namespace Go.Proofs.Ytbebkogkeepfoaa.PZ
open Go.RowKit Go.Proofs.YtbebkogkeepfoaaW.PrintWords Go.Proofs.YtbebkogkeepfoaaW.PrintLast Go.Proofs.YtbebkogkeepfoaaW.PrintMore
attribute [local go_sem] max2_int min2_int max_two min_two max_three min_three max_four min_four   -- for this text's walks alone
set_option linter.unusedVariables false
set_option linter.unusedSimpArgs false

end Go.Proofs.Ytbebkogkeepfoaa.PZ
-- printed for this claim by a program (pall.sh)
-- mended by fixpz.py
namespace Go.Proofs.Ytbebkogkeepfoaa.PZ
open Go.RowKit Go.Proofs.YtbebkogkeepfoaaW.PrintWords Go.Proofs.YtbebkogkeepfoaaW.PrintLast Go.Proofs.YtbebkogkeepfoaaW.PrintMore
attribute [local go_sem] max2_int min2_int max_two min_two max_three min_three max_four min_four   -- for this text's walks alone
set_option linter.unusedVariables false
set_option linter.unusedSimpArgs false

/-! ### hanaperref01_Same: function 27 -/
def hanaperref01_Same.l0 : Nat → List Int → List Int → Int → Option (Bool)
 | 0, _, _, _ => none
 | k + 1, x0, x1, x5 => if x5 < (x0.length : Int) then (if 0 ≤ x5 then (if x5 < (x1.length : Int) then (if (rd x0 x5) = (rd x1 x5) then (hanaperref01_Same.l0 k x0 x1 (wrap64 (x5 + 1))) else (some false)) else (none)) else (none)) else (some true)
def hanaperref01_Same.f (k : Nat) (l0 : List Int) (l1 : List Int) : Option (Bool) := if (l0.length : Int) = (l1.length : Int) then (hanaperref01_Same.l0 k l0 l1 0) else (some false)
set_option maxHeartbeats 8000000 in
set_option maxRecDepth 100000 in
theorem hanaperref01_Same.calls (k : Nat) (A0 : Option Addr) (c0 : Nat) (l0 : List Int) (A1 : Option Addr) (c1 : Nat) (l1 : List Int) (r : Bool) (w : World) (hr0 : Kd.C (Kd.int .u8) w A0 l0.length l0) (hc0 : l0.length ≤ c0) (hr1 : Kd.C (Kd.int .u8) w A1 l1.length l1) (hc1 : l1.length ≤ c1) (h : hanaperref01_Same.f k l0 l1 = some r) :
  Calls Try.prog 27 #[.slice A0 l0.length c0, .slice A1 l1.length c1] w fun e w' => e = .returned (.bool r) ∧ Drawn0 w w' := by
 have HR0 := Aside0.mk hr0
 have HC0 := Aside0.mk hc0
 clear hr0 hc0
 have HR1 := Aside0.mk hr1
 have HC1 := Aside0.mk hc1
 clear hr1 hc1
 have H : (if (l0.length : Int) = (l1.length : Int) then (hanaperref01_Same.l0 k l0 l1 0) else (some false)) = some r := h
 clear h
 by_cases c3 : (l0.length : Int) = (l1.length : Int)
 ·rw [if_pos c3] at H
  have c3b0 : ((l0.length : Int) == (l1.length : Int)) = true := beq_iff_eq.mpr c3
  have c3b1 : ((l0.length : Int) != (l1.length : Int)) = false := bne_eq_false_iff_eq.mpr c3
  have c3b2 : (l0.length == l1.length) = true := by first | simpa using c3 | (simp at c3 ⊢; omega)
  clear c3
  have H' := Aside0.mk H
  clear H
  go_enter Try.func27, Try.ntmps27
  go_wp2
  repeat (go_quiet (fail); try go_wp2)
  go_loopg [5] k (fun kq v5 w' => ∃ (x5_1 : Int), v5 = .int .i64 x5_1 ∧ Aside0 (hanaperref01_Same.l0 kq l0 l1 x5_1 = some r) ∧ Aside0 (kq ≤ k) ∧ Drawn0 w w')
  case atStart => exact ⟨(0), (by first | rfl | (simp; done) | (simp [*]; done)), H', ⟨Nat.le_refl _⟩, by repeat (first | exact Drawn0.refl _ | apply Drawn0.step)⟩
  case round =>
   clear H'
   (try clear c1);(try clear c2);(try clear p2);(try clear c3);(try clear c3b0);(try clear c3b1);(try clear c3b2)
   obtain ⟨x5_1, rfl, HA, HK1, ⟨m1, rfl⟩⟩ := hrel
   cases gk with
   | zero => exact absurd HA.out (by simp [hanaperref01_Same.l0])
   | succ k1 =>
    have H := HA.out
    clear HA
    simp only [hanaperref01_Same.l0] at H
    by_cases c4 : x5_1 < (l0.length : Int)
    ·rw [if_pos c4] at H
     have c4b0 : decide (x5_1 < (l0.length : Int)) = true := decide_eq_true c4
     clear c4
     by_cases c5 : 0 ≤ x5_1
     ·rw [if_pos c5] at H
      have c5b0 : decide (0 ≤ x5_1) = true := decide_eq_true c5
      clear c5
      by_cases c6 : x5_1 < (l1.length : Int)
      ·rw [if_pos c6] at H
       have c6b0 : decide (x5_1 < (l1.length : Int)) = true := decide_eq_true c6
       clear c6
       by_cases c7 : (rd l0 x5_1) = (rd l1 x5_1)
       ·rw [if_pos c7] at H
        have c7b0 : ((rd l0 x5_1) == (rd l1 x5_1)) = true := beq_iff_eq.mpr c7
        have c7b1 : ((rd l0 x5_1) != (rd l1 x5_1)) = false := bne_eq_false_iff_eq.mpr c7
        clear c7
        have H' := Aside0.mk H
        clear H
        have p101 : 0 ≤ (x5_1 : Int) := of_decide_eq_true (by first | (with_reducible assumption) | assumption)
        have q101 : x5_1 < (l0.length : Int) := of_decide_eq_true (by first | (with_reducible assumption) | assumption)
        obtain ⟨ad101, e101, hx101_0⟩ := Kd.at_int HR0.out x5_1 p101 q101
        cases e101
        replace p101 := eq_true p101
        replace q101 := eq_true q101
        have p102 : 0 ≤ (x5_1 : Int) := of_decide_eq_true (by first | (with_reducible assumption) | assumption)
        have q102 : x5_1 < (l1.length : Int) := of_decide_eq_true (by first | (with_reducible assumption) | assumption)
        obtain ⟨ad102, e102, hx102_0⟩ := Kd.at_int HR1.out x5_1 p102 q102
        cases e102
        replace p102 := eq_true p102
        replace q102 := eq_true q102
        go_wp2
        repeat (go_quiet (fail); try go_wp2)
        go_roundg k1
        case measure => have := HK1.out; omega
        case rel => exact ⟨(wrap64 (x5_1 + 1)), (by first | rfl | (simp; done) | (simp [*]; done)), H', ⟨by have := HK1.out; omega⟩, by repeat (first | exact Drawn0.refl _ | apply Drawn0.step)⟩
       ·rw [if_neg c7] at H
        have c7b0 : ((rd l0 x5_1) == (rd l1 x5_1)) = false := beq_eq_false_iff_ne.mpr c7
        have c7b1 : ((rd l0 x5_1) != (rd l1 x5_1)) = true := bne_iff_ne.mpr c7
        obtain rfl := Option.some.inj H
        have p101 : 0 ≤ (x5_1 : Int) := of_decide_eq_true (by first | (with_reducible assumption) | assumption)
        have q101 : x5_1 < (l0.length : Int) := of_decide_eq_true (by first | (with_reducible assumption) | assumption)
        obtain ⟨ad101, e101, hx101_0⟩ := Kd.at_int HR0.out x5_1 p101 q101
        cases e101
        replace p101 := eq_true p101
        replace q101 := eq_true q101
        have p102 : 0 ≤ (x5_1 : Int) := of_decide_eq_true (by first | (with_reducible assumption) | assumption)
        have q102 : x5_1 < (l1.length : Int) := of_decide_eq_true (by first | (with_reducible assumption) | assumption)
        obtain ⟨ad102, e102, hx102_0⟩ := Kd.at_int HR1.out x5_1 p102 q102
        cases e102
        replace p102 := eq_true p102
        replace q102 := eq_true q102
        go_wp2
        repeat (go_quiet (fail); try go_wp2)
        go_ret
        exact ⟨by first | rfl | (simp; done) | (simp [*]; done), by repeat (first | exact Drawn0.refl _ | apply Drawn0.step)⟩
      ·rw [if_neg c6] at H
       exact absurd H (by simp)
     ·rw [if_neg c5] at H
      exact absurd H (by simp)
    ·rw [if_neg c4] at H
     have c4b0 : decide (x5_1 < (l0.length : Int)) = false := decide_eq_false c4
     clear c4
     obtain rfl := Option.some.inj H
     go_wp2
     repeat (go_quiet (fail); try go_wp2)
     go_ret
     exact ⟨by first | rfl | (simp; done) | (simp [*]; done), by repeat (first | exact Drawn0.refl _ | apply Drawn0.step)⟩
 ·rw [if_neg c3] at H
  have c3b0 : ((l0.length : Int) == (l1.length : Int)) = false := beq_eq_false_iff_ne.mpr c3
  have c3b1 : ((l0.length : Int) != (l1.length : Int)) = true := bne_iff_ne.mpr c3
  have c3b2 : (l0.length == l1.length) = false := by first | simpa using c3 | (simp at c3 ⊢; omega)
  obtain rfl := Option.some.inj H
  go_enter Try.func27, Try.ntmps27
  go_wp2
  repeat (go_quiet (fail); try go_wp2)
  go_ret
  exact ⟨by first | rfl | (simp; done) | (simp [*]; done), by repeat (first | exact Drawn0.refl _ | apply Drawn0.step)⟩

end Go.Proofs.Ytbebkogkeepfoaa.PZ
/- What the lowest functions come to: numbers and texts as bytes, lists that are the same. -/
namespace Go.Proofs.Ytbebkogkeepfoaa.Lo
open Go.Proofs.Ytbebkogkeepfoaa.Base Go.Proofs.Ytbebkogkeepfoaa.TlvPlain Go.Proofs.Ytbebkogkeepfoaa.Aid Go.RowKit Go.Proofs.YtbebkogkeepfoaaW.PrintWords Go.Proofs.YtbebkogkeepfoaaW.PrintLast Go.Proofs.YtbebkogkeepfoaaW.PrintMore Go.Proofs.Ytbebkogkeepfoaa.PZ

/-- A number's bytes, the highest first. -/
def be (n : Nat) : List Int := if n = 0 then [] else be (n / 256) ++ [((n % 256 : Nat) : Int)]
termination_by n
decreasing_by omega
theorem same_from (a b : List Int) (hl : a.length = b.length) (hn : a.length ≤ 4611686018427387904) : ∀ (d i : Nat), i + d = a.length →
    Ev (fun k => hanaperref01_Same.l0 k a b i) (decide (a.drop i = b.drop i)) := by
  intro d
  induction d with
  | zero =>
    intro i hi
    refine Ev.step (fun k => by simp only [hanaperref01_Same.l0]; rfl) ?_
    refine neg (by omega) (now ?_)
    rw [List.drop_of_length_le (by omega), List.drop_of_length_le (by omega)]; simp
  | succ d ih =>
    intro i hi
    refine Ev.step (fun k => by simp only [hanaperref01_Same.l0]; rfl) ?_
    refine pos (by omega) (pos (by omega) (pos (by omega) ?_))
    rw [rd_nat a i (by omega), rd_nat b i (by omega), drop_cons a i (by omega), drop_cons b i (by omega), inc (show i < a.length by omega) hn]
    by_cases e : a[i]'(by omega) = b[i]'(by omega)
    · refine pos e ?_
      have := ih (i + 1) (by omega)
      generalize a.drop (i + 1) = A at this ⊢
      generalize b.drop (i + 1) = B at this ⊢
      simpa [e] using this
    · refine neg e (now ?_)
      generalize a.drop (i + 1) = A
      generalize b.drop (i + 1) = B
      simp [e]
theorem same_ev (a b : List Int) (hn : a.length ≤ 4611686018427387904) : Ev (fun k => hanaperref01_Same.f k a b) (decide (a = b)) := by
  unfold hanaperref01_Same.f
  by_cases e : a.length = b.length
  · refine pos (by omega) ?_
    simpa using same_from a b e hn a.length 0 (by omega)
  · refine neg (by omega) (now ?_)
    have : a ≠ b := fun h => e (by rw [h])
    simp [this]
end Go.Proofs.Ytbebkogkeepfoaa.Lo
/- The lowest functions, each with what it answers. -/
namespace Go.Proofs.Ytbebkogkeepfoaa.Lo
open Go.Proofs.Ytbebkogkeepfoaa.Base Go.Proofs.Ytbebkogkeepfoaa.TlvPlain Go.Proofs.Ytbebkogkeepfoaa.Aid Go.RowKit Go.Proofs.YtbebkogkeepfoaaW.PrintWords Go.Proofs.YtbebkogkeepfoaaW.PrintLast Go.Proofs.YtbebkogkeepfoaaW.PrintMore Go.Proofs.Ytbebkogkeepfoaa.PZ

theorem same_c (A0 : Option Addr) (c0 : Nat) (a : List Int) (A1 : Option Addr) (c1 : Nat) (b : List Int) (w : World) (h0 : Rb w A0 a) (hc0 : a.length ≤ c0) (h1 : Rb w A1 b) (hc1 : b.length ≤ c1) (hn : a.length ≤ 4611686018427387904) :
    Calls Try.prog 27 #[.slice A0 a.length c0, .slice A1 b.length c1] w fun e w' => e = .returned (.bool (decide (a = b))) ∧ Drawn0 w w' := by
  obtain ⟨k, h⟩ := (same_ev a b hn).rounds
  exact hanaperref01_Same.calls k A0 c0 a A1 c1 b _ w h0 hc0 h1 hc1 h
end Go.Proofs.Ytbebkogkeepfoaa.Lo
-- printed for this claim by a program (pall.sh)
-- mended by fixpz.py
namespace Go.Proofs.Ytbebkogkeepfoaa.PZ
open Go.RowKit Go.Proofs.YtbebkogkeepfoaaW.PrintWords Go.Proofs.YtbebkogkeepfoaaW.PrintLast Go.Proofs.YtbebkogkeepfoaaW.PrintMore
attribute [local go_sem] max2_int min2_int max_two min_two max_three min_three max_four min_four   -- for this text's walks alone
set_option linter.unusedVariables false
set_option linter.unusedSimpArgs false

end Go.Proofs.Ytbebkogkeepfoaa.PZ
/- commit: Of walked, and the document's. -/
namespace Go.Proofs.Ytbebkogkeepfoaa.Com
set_option linter.unusedVariables false
set_option linter.unusedSimpArgs false
open Go.RowKit Go.Proofs.Ytbebkogkeepfoaa.Base Go.Proofs.Ytbebkogkeepfoaa.TlvPlain Go.Proofs.Ytbebkogkeepfoaa.ShaPlain Go.Proofs.Ytbebkogkeepfoaa.Sha Go.Proofs.Ytbebkogkeepfoaa.Lo Go.Proofs.Ytbebkogkeepfoaa.Aid Go.Proofs.YtbebkogkeepfoaaW.PrintWords Go.Proofs.YtbebkogkeepfoaaW.PrintLast Go.Proofs.YtbebkogkeepfoaaW.PrintMore Go.Proofs.Ytbebkogkeepfoaa.PZ
end Go.Proofs.Ytbebkogkeepfoaa.Com
/- The document's Hex walked. -/
namespace Go.Proofs.Ytbebkogkeepfoaa.Sha
set_option linter.unusedVariables false
open Go.RowKit Go.Proofs.Ytbebkogkeepfoaa.Base Go.Proofs.Ytbebkogkeepfoaa.ShaPlain Go.Proofs.Ytbebkogkeepfoaa.Aid Go.Proofs.YtbebkogkeepfoaaW.PrintWords Go.Proofs.YtbebkogkeepfoaaW.PrintLast Go.Proofs.YtbebkogkeepfoaaW.PrintMore
end Go.Proofs.Ytbebkogkeepfoaa.Sha
/- ShaSums: the law's walk. -/
namespace Go.Proofs.Ytbebkogkeepfoaa.Sha
set_option linter.unusedVariables false
set_option linter.unusedSimpArgs false
open Go.RowKit Go.Proofs.Ytbebkogkeepfoaa.Base Go.Proofs.Ytbebkogkeepfoaa.ShaPlain Go.Proofs.Ytbebkogkeepfoaa.Aid Go.Proofs.YtbebkogkeepfoaaW.PrintWords Go.Proofs.YtbebkogkeepfoaaW.PrintLast Go.Proofs.YtbebkogkeepfoaaW.PrintMore
theorem range_blk {w : World} {g T : Nat} {cs : List Value} (h : w.heap[g]? = some (.cells cs.toArray T (0, 0))) : w.rangeAt g 0 cs := fun j v hv => by
  rw [Nat.zero_add, blk_cell h j]
  simpa using hv
end Go.Proofs.Ytbebkogkeepfoaa.Sha
/- commit: Check walked; the example of layer 7. -/
namespace Go.Proofs.Ytbebkogkeepfoaa.Com
set_option linter.unusedVariables false
set_option linter.unusedSimpArgs false
open Go.RowKit Go.Proofs.Ytbebkogkeepfoaa.Base Go.Proofs.Ytbebkogkeepfoaa.TlvPlain Go.Proofs.Ytbebkogkeepfoaa.ShaPlain Go.Proofs.Ytbebkogkeepfoaa.Sha Go.Proofs.Ytbebkogkeepfoaa.Lo Go.Proofs.Ytbebkogkeepfoaa.Aid Go.Proofs.YtbebkogkeepfoaaW.PrintWords Go.Proofs.YtbebkogkeepfoaaW.PrintLast Go.Proofs.YtbebkogkeepfoaaW.PrintMore
end Go.Proofs.Ytbebkogkeepfoaa.Com
/- What an array argument reads as. -/
namespace Go.Proofs.Ytbebkogkeepfoaa.Open
open Go.Proofs.Ytbebkogkeepfoaa.Base Go.RowKit Go.Proofs.YtbebkogkeepfoaaW.PrintWords Go.Proofs.YtbebkogkeepfoaaW.PrintLast Go.Proofs.YtbebkogkeepfoaaW.PrintMore
theorem opensN_array {P : Program} {n N : Nat} {t e : TypeId} {α : Type} {d : Kd α} {ok : α → Prop} (hs : 0 < d.sz) (ht : P.underlying t = some (.array N e)) (hc : P.cellsOf t = N * d.sz) (he : P.cellsOf e = d.sz) (hd : OpensN P n e d ok) : OpensN P (n + 1) t (Kd.arr N d hs) (fun xs => ∀ x ∈ xs, ok x) := by
  intro H enc w base held cs x h
  unfold DataW.trod at h
  rw [ht] at h
  have h' : (if cs.length = P.cellsOf t then ((List.range N).mapM fun i => DataW.trod enc P w base (fun _ => true) held n e ((cs.drop (i * P.cellsOf e)).take (P.cellsOf e))).map fun xs => (DataW.agg (xs.map (·.1)), xs.flatMap (·.2)) else none) = some x := by
    revert h
    split <;> simp_all
  split at h'
  · next hl =>
    obtain ⟨ys, h1, _⟩ := Option.map_eq_some_iff.1 h'
    obtain ⟨xs, hxl, hxs⟩ := choose_list (α := α) (p := fun i v => d.K w v ((cs.drop (i * d.sz)).take d.sz) ∧ ok v) N (fun i hi => by
      have h2 := mapM_some_get h1 i i (by simp [hi])
      have hlen : ys.length = N := by have := mapM_some_length h1; simpa using this
      rw [List.getElem?_eq_getElem (show i < ys.length by omega), he] at h2
      exact hd _ _ _ _ _ _ _ h2)
    refine ⟨xs, ⟨hxl, by rw [hl, hc, hxl], fun j p hj => (hxs j p hj).1⟩, fun y hy => ?_⟩
    obtain ⟨i, hi, rfl⟩ := List.mem_iff_getElem.1 hy
    exact (hxs i _ (List.getElem?_eq_getElem hi)).2
  · cases h'
theorem opens_array {P : Program} {N : Nat} {t e : TypeId} {α : Type} {d : Kd α} {ok : α → Prop} (hs : 0 < d.sz) (ht : P.underlying t = some (.array N e)) (hc : P.cellsOf t = N * d.sz) (he : P.cellsOf e = d.sz) (hd : Opens P e d ok) : Opens P t (Kd.arr N d hs) (fun xs => ∀ x ∈ xs, ok x) := by
  intro n
  cases n with
  | zero => intro H enc w base held cs x h; simp [DataW.trod] at h
  | succ n => exact opensN_array hs ht hc he (hd n)
/-- The cells of an array of numbers. -/
theorem nums_arr {w : World} {k : IntKind} {N : Nat} {hs : 0 < (Kd.int k).sz} {xs : List Int} {cs : List Value} (h : (Kd.arr N (Kd.int k) hs).K w xs cs) : cs = nums k xs := by
  apply List.ext_getElem?
  intro i
  have hl : cs.length = xs.length := by rw [h.2.1]; show _ * 1 = _; omega
  cases hx : xs[i]? with
  | none =>
    rw [List.getElem?_eq_none_iff] at hx
    rw [List.getElem?_eq_none_iff.2 (by omega), nums, List.getElem?_map, List.getElem?_eq_none_iff.2 hx]
    rfl
  | some y =>
    have hi := (List.getElem?_eq_some_iff.1 hx).1
    have h2 := h.2.2 i y hx
    rw [nums, List.getElem?_map, hx]
    have h3 : (cs.drop (i * (Kd.int k).sz)).take (Kd.int k).sz = [.int k y] := h2
    have h4 : ((cs.drop (i * (Kd.int k).sz)).take (Kd.int k).sz)[0]? = cs[i]? := by
      rw [List.getElem?_take, if_pos hs, List.getElem?_drop, show i * (Kd.int k).sz + 0 = i by show i * 1 + 0 = i; omega]
    rw [← h4, h3]
    rfl
end Go.Proofs.Ytbebkogkeepfoaa.Open
/- CommitOf: the law's walk. -/
namespace Go.Proofs.Ytbebkogkeepfoaa.Com
set_option linter.unusedVariables false
set_option linter.unusedSimpArgs false
open Go.RowKit Go.Proofs.Ytbebkogkeepfoaa.Base Go.Proofs.Ytbebkogkeepfoaa.TlvPlain Go.Proofs.Ytbebkogkeepfoaa.ShaPlain Go.Proofs.Ytbebkogkeepfoaa.Sha Go.Proofs.Ytbebkogkeepfoaa.Lo Go.Proofs.Ytbebkogkeepfoaa.Aid Go.Proofs.YtbebkogkeepfoaaW.PrintWords Go.Proofs.YtbebkogkeepfoaaW.PrintLast Go.Proofs.YtbebkogkeepfoaaW.PrintMore
end Go.Proofs.Ytbebkogkeepfoaa.Com
/- commit: Link walked. -/
namespace Go.Proofs.Ytbebkogkeepfoaa.Com
set_option linter.unusedVariables false
set_option linter.unusedSimpArgs false
open Go.RowKit Go.Proofs.Ytbebkogkeepfoaa.Base Go.Proofs.Ytbebkogkeepfoaa.TlvPlain Go.Proofs.Ytbebkogkeepfoaa.ShaPlain Go.Proofs.Ytbebkogkeepfoaa.Sha Go.Proofs.Ytbebkogkeepfoaa.Lo Go.Proofs.Ytbebkogkeepfoaa.Aid Go.Proofs.YtbebkogkeepfoaaW.PrintWords Go.Proofs.YtbebkogkeepfoaaW.PrintLast Go.Proofs.YtbebkogkeepfoaaW.PrintMore
theorem rb_blk {w : World} {g T : Nat} {xs : List Int} (h : w.heap[g]? = some (.cells (nums .u8 xs).toArray T (0, 0))) (hm : xs.length ≤ 9223372036854775807) : Rb w (some ⟨g, 0, none⟩) xs := by
  refine Kd.C_of_reads (d := (0 : Int)) ⟨rfl, hm, fun _ => ⟨_, rfl, fun j hj => ?_⟩⟩
  rw [add_plain, blk_cell h j]
  simp [nums, List.getElem?_eq_getElem hj, rd, List.getD_eq_getElem?_getD]
end Go.Proofs.Ytbebkogkeepfoaa.Com
/- The document's text of a link, and its sum. -/
namespace Go.Proofs.Ytbebkogkeepfoaa.Com
set_option linter.unusedVariables false
set_option linter.unusedSimpArgs false
open Go.RowKit Go.Proofs.Ytbebkogkeepfoaa.Base Go.Proofs.Ytbebkogkeepfoaa.TlvPlain Go.Proofs.Ytbebkogkeepfoaa.ShaPlain Go.Proofs.Ytbebkogkeepfoaa.Sha Go.Proofs.Ytbebkogkeepfoaa.Lo Go.Proofs.Ytbebkogkeepfoaa.Aid Go.Proofs.YtbebkogkeepfoaaW.PrintWords Go.Proofs.YtbebkogkeepfoaaW.PrintLast Go.Proofs.YtbebkogkeepfoaaW.PrintMore
theorem c32 {w : World} {g T : Nat} {xs : List Int} {C : Array Value} (h : w.heap[g]? = some (.cells C T (0, 0))) (hC : (nums .u8 xs).toArray = C) (hl : xs.length = 32) : Kd.C (Kd.int .u8) w (some ⟨g, 0, none⟩) 32 xs := by
  subst hC
  have h2 := rb_blk h (by rw [hl]; decide)
  have h3 : Kd.C (Kd.int .u8) w (some ⟨g, 0, none⟩) xs.length xs := h2
  rwa [hl] at h3
end Go.Proofs.Ytbebkogkeepfoaa.Com
/- tree: the sums of a leaf, and of two; what is summed for them, by the document. -/
namespace Go.Proofs.Ytbebkogkeepfoaa.Tree
set_option linter.unusedVariables false
set_option linter.unusedSimpArgs false
open Go.RowKit Go.Proofs.Ytbebkogkeepfoaa.Base Go.Proofs.Ytbebkogkeepfoaa.TlvPlain Go.Proofs.Ytbebkogkeepfoaa.ShaPlain Go.Proofs.Ytbebkogkeepfoaa.Sha Go.Proofs.Ytbebkogkeepfoaa.Com Go.Proofs.Ytbebkogkeepfoaa.Aid Go.Proofs.YtbebkogkeepfoaaW.PrintWords Go.Proofs.YtbebkogkeepfoaaW.PrintLast Go.Proofs.YtbebkogkeepfoaaW.PrintMore
/-- The cells of a sum. -/
structure SumF (D : Array Value) (d : List Int) : Prop where
  eq : (nums .u8 d).toArray = D
  len : d.length = 32
  info : (Try.prog.info? 24).map (·.size) = some D.size
  zs : Z32.size = D.size
  one : D.all (·.oneCell') = true
theorem sumF (d : List Int) (h : d.length = 32) : ∃ D, SumF D d :=
  ⟨_, rfl, h, by rw [show (nums .u8 d).toArray.size = 32 by simp [nums, h]]; exact info_32, by simp [Z32, nums, h], nums_one _ _⟩
theorem SumF.v {D : Array Value} {d : List Int} (h : SumF D d) : sumV d = .agg D := by rw [← h.eq]
/-- A sum's block, read as bytes. -/
theorem SumF.rb {D : Array Value} {d : List Int} (h : SumF D d) {w : World} {g : Nat} (hb : w.heap[g]? = some (.cells D 24 (0, 0))) : Rb w (some ⟨g, 0, none⟩) d :=
  rb_blk (by rw [h.eq]; exact hb) (by rw [h.len]; decide)
abbrev Ret (w : World) (d : List Int) : Ending → World → Prop := fun e w' => e = .returned (sumV d) ∧ Below w.heap.size w w'
set_option maxHeartbeats 4000000 in
set_option maxRecDepth 100000 in
theorem leaf_c (a : List Int) (ha : a.length = 32) (hu : U8' a) (w : World) : Calls Try.prog 56 #[sumV a] w (Ret w (leafH a)) := by
  obtain ⟨A, hA⟩ := sumF a ha
  obtain ⟨D, hD⟩ := sumF (leafH a) (leafH_len a)
  have HA := Aside0.mk hA
  have HD := Aside0.mk hD
  have HU := Aside0.mk hu
  unfold Ret
  rw [hA.v, hD.v]
  clear ha hu hA hD
  have HG := Aside0.mk (show ((w.alloc (.cells A 24)).alloc (.cells Z32 24)).heap[w.heap.size]? = some (.cells A 24 (0, 0)) from blk_alloc (blk_new _ _) _)
  have HZ := Aside0.mk (show ((w.alloc (.cells A 24)).alloc (.cells Z32 24)).heap[w.heap.size + 1]? = some (.cells Z32 24 (0, 0)) from second_new' _ _ _)
  have HB := Aside0.mk (show Below w.heap.size w ((w.alloc (.cells A 24)).alloc (.cells Z32 24)) from below_alloc (below_alloc (Below.refl _ _) _) _)
  go_enter Try.func56, Try.ntmps56
  go_wp2_with (first
    | ((with_reducible refine gate_dst (N := 3) rfl ?_); (try (refine gate_guard (by rfl) ?_; dsimp only)); refine lit_bytes (N := 3) ?hg ?hd [3] [.int .u8 (3)] rfl ?hr (by simp) ?_; (case hd => rfl); (case hg => rfl); (case hr => first | (go_simp; done) | (go_simp; rfl)); intro v w1 ho hb; have n2_ := Aside0.mk (below_step HB.out hb); have n3_ := Aside0.mk (blk_below HZ.out hb); have n4_ := Aside0.mk (blk_below HG.out hb); clear HB HZ HG; have HB := n2_; have HZ := n3_; have HG := n4_; clear n2_ n3_ n4_ hb; obtain ⟨Aq, cq, rfl, hl_, hr_⟩ := Ob.reads ho; have HRq := Aside0.mk hr_; have HLq := Aside0.mk hl_; clear ho hl_ hr_)
    | ((with_reducible refine gate_dst (N := 5) rfl ?_); refine lit_rows (N := 5) (e := 22) ?hg ?hd [[3], a] [.slice Aq 1 cq, .slice (some ⟨w.heap.size, 0, none⟩) 32 32] (by have h := rows2 HRq.out HLq.out (HA.out.rb HG.out) (Nat.le_of_eq HA.out.len); rw [HA.out.len] at h; exact h) ?hr (by simp) ?_; (case hd => rfl); (case hg => rfl); (case hr => first | (go_simp; done) | (go_simp; rfl)); intro A9 w4 hrr hb; have HRR := Aside0.mk hrr; have HZ4 := Aside0.mk (blk_below HZ.out hb); have HB4 := Aside0.mk (below_step HB.out hb); clear hb hrr))
  refine (of_c A9 2 [[3], a] w4 HRR.out (by simp) (by
    intro x hx y hy
    rcases List.mem_cons.1 hx with rfl | hx
    · rw [List.mem_singleton.1 hy]; decide
    · rw [List.mem_singleton.1 hx] at hy
      exact HU.out y hy) (by have h1 := HA.out.len; simp only [List.flatten_cons, List.flatten_nil, List.append_nil, List.length_append, List.length_singleton]; omega) (by simp)).mono ?_
  rintro e w6 ⟨rfl, hb6⟩
  rw [show (nums .u8 (shaB ([[3], a] : List (List Int)).flatten)).toArray = D by rw [← HD.out.eq]; simp [leafH, leafX]]
  have HZ6 := Aside0.mk (blk_below HZ4.out hb6)
  have HB6 := Aside0.mk (below_step HB4.out hb6)
  have HIF := Aside0.mk HD.out.info
  clear hb6
  go_wp2_with ((with_reducible refine gate_store (t := 24) (p := 2) (v := .tmp 6) rfl ?_); refine wpList_store_row rfl 24 (.tmp 2) (.tmp 6) rfl (w.heap.size + 1) D rfl rfl 24 Z32 HZ6.out HIF.out HD.out.zs HD.out.one ?_)
  have HSR := setRow_heap w6 (w.heap.size + 1) Z32 D _ _ HZ6.out
  refine bodyPost_ret (v := .agg D) (results_cell_row rfl _ _ (w.heap.size + 1) 24 D (0, 0) _ rfl HSR Try.underlying24 rfl HIF.out) rfl ⟨rfl, below_setRow HB6.out (by omega) D⟩
set_option maxHeartbeats 4000000 in
set_option maxRecDepth 100000 in
theorem two_c (a b : List Int) (ha : a.length = 32) (hb : b.length = 32) (hu : U8' a) (hv : U8' b) (w : World) : Calls Try.prog 58 #[sumV a, sumV b] w (Ret w (nodeH a b)) := by
  obtain ⟨P, hP⟩ := sumF a ha
  obtain ⟨C, hC⟩ := sumF b hb
  obtain ⟨D, hD⟩ := sumF (nodeH a b) (nodeH_len a b)
  have HP := Aside0.mk hP
  have HC := Aside0.mk hC
  have HD := Aside0.mk hD
  have HU := Aside0.mk (And.intro hu hv)
  unfold Ret
  rw [hP.v, hC.v, hD.v]
  clear ha hb hu hv hP hC hD
  go_enter Try.func58, Try.ntmps58
  go_wp2_with (fail)
  have HG := Aside0.mk (show (((w.alloc (.cells P 24)).alloc (.cells C 24)).alloc (.cells Z32 24)).heap[w.heap.size]? = some (.cells P 24 (0, 0)) from blk_alloc (blk_alloc (blk_new _ _) _) _)
  have HH := Aside0.mk (show (((w.alloc (.cells P 24)).alloc (.cells C 24)).alloc (.cells Z32 24)).heap[w.heap.size + 1]? = some (.cells C 24 (0, 0)) from blk_alloc (second_new' _ _ _) _)
  have HZ := Aside0.mk (show (((w.alloc (.cells P 24)).alloc (.cells C 24)).alloc (.cells Z32 24)).heap[w.heap.size + 1 + 1]? = some (.cells Z32 24 (0, 0)) from third_new _ _ _ _)
  have HB := Aside0.mk (show Below w.heap.size w (((w.alloc (.cells P 24)).alloc (.cells C 24)).alloc (.cells Z32 24)) from below_alloc (below_alloc (below_alloc (Below.refl _ _) _) _) _)
  obtain ⟨W, hW⟩ : ∃ W, ((w.alloc (.cells P 24)).alloc (.cells C 24)).alloc (.cells Z32 24) = W := ⟨_, rfl⟩
  rw [hW] at HG HH HZ HB
  rw [show ((w.alloc (.cells P 24)).alloc (.cells C 24)).alloc (.cells #[.int .u8 0, .int .u8 0, .int .u8 0, .int .u8 0, .int .u8 0, .int .u8 0, .int .u8 0, .int .u8 0, .int .u8 0, .int .u8 0, .int .u8 0, .int .u8 0, .int .u8 0, .int .u8 0, .int .u8 0, .int .u8 0, .int .u8 0, .int .u8 0, .int .u8 0, .int .u8 0, .int .u8 0, .int .u8 0, .int .u8 0, .int .u8 0, .int .u8 0, .int .u8 0, .int .u8 0, .int .u8 0, .int .u8 0, .int .u8 0, .int .u8 0, .int .u8 0] 24) = W from hW]
  clear hW
  obtain ⟨g0, hg0⟩ : ∃ g, w.heap.size = g := ⟨_, rfl⟩
  have HG0 := Aside0.mk hg0
  rw [hg0] at HG HH HZ ⊢
  clear hg0
  refine wp_region_held_drew (S := fun _ => True) (by kernel_rfl) trivial (fun hHeld => ?_)
  (refine wpAnyH_take (i := 1) (v := ?_) rfl (by kernel_rfl) (by kernel_rfl) (by kernel_rfl) (fun _ _ _ h => h) (Or.inl ⟨by rfl, ?_⟩) (by assumption) ?_; (case' refine_2 => (intro w hSw; go_simp; try with_reducible rfl)); (try simp only [Act.put, List.getElem_toArray, List.getElem_cons_zero, List.getElem_cons_succ, List.setIfInBounds_toArray, List.set_cons_zero, List.set_cons_succ]))
  (refine wpAnyH_take (i := 2) (v := ?_) rfl (by kernel_rfl) (by kernel_rfl) (by kernel_rfl) (fun _ _ _ h => h) (Or.inl ⟨by rfl, ?_⟩) (by assumption) ?_; (case' refine_2 => (intro w hSw; go_simp; try with_reducible rfl)); (try simp only [Act.put, List.getElem_toArray, List.getElem_cons_zero, List.getElem_cons_succ, List.setIfInBounds_toArray, List.set_cons_zero, List.set_cons_succ]))
  (refine wpAnyH_ready (rs := [0]) (by kernel_rfl) (by simp) (AllReadyH.cons rfl (fun K hK => ?_) AllReadyH.nil); go_simp)
  have HR0 := Aside0.mk (show Rb (W.alloc (.cells #[.int .u8 4] 5)).drew (some ⟨W.heap.size, 0, none⟩) [4] from Kd.C_drew (const_reads W [4] _ _ rfl (by decide)))
  have hb' : Below W.heap.size W (W.alloc (.cells #[.int .u8 4] 5)).drew := below_drew (below_alloc (Below.refl W.heap.size W) (.cells #[.int .u8 4] 5))
  have HG3 := Aside0.mk (blk_below HG.out hb')
  have HH3 := Aside0.mk (blk_below HH.out hb')
  have HZ3 := Aside0.mk (blk_below HZ.out hb')
  have HB3 := Aside0.mk (below_step HB.out hb')
  clear hb'
  obtain ⟨w3, hw3⟩ : ∃ w3, (W.alloc (.cells #[.int .u8 4] 5)).drew = w3 := ⟨_, rfl⟩
  rw [hw3] at HR0 HG3 HH3 HZ3 HB3 ⊢
  clear hw3
  obtain ⟨A4, hA4⟩ : ∃ A, some (⟨W.heap.size, 0, none⟩ : Addr) = A := ⟨_, rfl⟩
  rw [hA4] at HR0 ⊢
  clear hA4
  (refine Shut.out hK _ _ trivial (fun hHeld => ?_); clear hK K; (try simp only [Act.put, List.getElem_toArray, List.getElem_cons_zero, List.getElem_cons_succ, List.setIfInBounds_toArray, List.set_cons_zero, List.set_cons_succ]))
  (refine wpAnyH_ready (rs := [3]) (by kernel_rfl) (by simp) (AllReadyH.cons rfl (fun K hK => ?_) AllReadyH.nil); go_simp)
  obtain ⟨O, hO⟩ : ∃ O, Obj.cells #[.slice A4 1 1, .slice (some ⟨g0, 0, none⟩) 32 32, .slice (some ⟨g0 + 1, 0, none⟩) 32 32] 22 = O := ⟨_, rfl⟩
  have HRR := Aside0.mk (show Rr (w3.alloc O) (some ⟨w3.heap.size, 0, none⟩) [[4], a, b] from by
    subst hO
    refine lit_rr (blk_new w3 _) _ (by simp) (fun j l hj => ?_)
    match j, hj with
    | 0, hj => cases hj; exact ⟨A4, 1, rfl, Nat.le_refl _, Kd.C_alloc HR0.out _⟩
    | 1, hj => cases hj; exact ⟨some ⟨g0, 0, none⟩, 32, by rw [HP.out.len]; rfl, Nat.le_of_eq HP.out.len, HP.out.rb (blk_alloc HG3.out _)⟩
    | 2, hj => cases hj; exact ⟨some ⟨g0 + 1, 0, none⟩, 32, by rw [HC.out.len]; rfl, Nat.le_of_eq HC.out.len, HC.out.rb (blk_alloc HH3.out _)⟩)
  have HZ4 := Aside0.mk (blk_alloc HZ3.out O)
  have HB4 := Aside0.mk (below_alloc HB3.out O)
  rw [hO]
  clear hO
  (refine Shut.out hK _ _ trivial (fun hHeld => ?_); clear hK K; (try simp only [Act.put, List.getElem_toArray, List.getElem_cons_zero, List.getElem_cons_succ, List.setIfInBounds_toArray, List.set_cons_zero, List.set_cons_succ]))
  (refine wpAnyH_ready (rs := [4]) (by kernel_rfl) (by simp) (AllReadyH.cons rfl (fun K hK => ?_) AllReadyH.nil); go_simp)
  refine (of_c (some ⟨w3.heap.size, 0, none⟩) 3 [[4], a, b] _ HRR.out (by simp) (by
    intro x hx y hy
    rcases List.mem_cons.1 hx with rfl | hx
    · rw [List.mem_singleton.1 hy]; decide
    · rcases List.mem_cons.1 hx with rfl | hx
      · exact HU.out.1 y hy
      · rw [List.mem_singleton.1 hx] at hy
        exact HU.out.2 y hy) (by
    have h1 := HP.out.len
    have h2 := HC.out.len
    simp only [List.flatten_cons, List.flatten_nil, List.append_nil, List.length_append, List.length_singleton]
    omega) (by simp)).mono ?_
  rintro e w6 ⟨rfl, hb6⟩
  have HIF := Aside0.mk HD.out.info
  rw [show (nums .u8 (shaB ([[4], a, b] : List (List Int)).flatten)).toArray = D by rw [← HD.out.eq, nodeH_eq]; simp [nodeX]]
  have HZ6 := Aside0.mk (blk_below HZ4.out hb6)
  have HB6 := Aside0.mk (below_step HB4.out hb6)
  clear hb6
  (refine Shut.out hK _ _ trivial (fun hHeld => ?_); clear hK K; (try simp only [Act.put, List.getElem_toArray, List.getElem_cons_zero, List.getElem_cons_succ, List.setIfInBounds_toArray, List.set_cons_zero, List.set_cons_succ]))
  refine wpAnyH_ready (rs := [5]) (by kernel_rfl) (by simp) (AllReadyH.cons rfl (fun K hK => ?_) AllReadyH.nil)
  rw [if_pos (by rfl)]
  refine wp_store_row 24 (.tmp 4) (.tmp 9) rfl (g0 + 1 + 1) D rfl rfl 24 Z32 HZ6.out HIF.out HD.out.zs HD.out.one ?_
  (refine Shut.out hK _ _ trivial (fun hHeld => ?_); clear hK K; (try simp only [Act.put, List.getElem_toArray, List.getElem_cons_zero, List.getElem_cons_succ, List.setIfInBounds_toArray, List.set_cons_zero, List.set_cons_succ]))
  refine wpAnyH_done (by kernel_rfl) ?_ _
  go_wp2_with (fail)
  have HSR := setRow_heap w6 (g0 + 1 + 1) Z32 D _ _ HZ6.out
  refine bodyPost_ret (v := .agg D) (results_cell_row rfl _ _ (g0 + 1 + 1) 24 D (0, 0) _ rfl HSR Try.underlying24 rfl HIF.out) rfl ⟨rfl, below_setRow HB6.out (by have := HG0.out; omega) D⟩
/-- A row that is written out, as a row of one's own. -/
theorem lit_R {α : Type} (d : Kd α) (W : World) (e : Nat) {okp : Nat → Prop} {xs : List α} {inner : List Value} (hrep : Reps (d.M W W.heap.size okp) d.sz xs inner) (hm : xs.length ≤ 9223372036854775807) :
    d.R e (W.alloc (.cells inner.toArray e)) W.heap.size (fun _ => True) (.slice (some ⟨W.heap.size, 0, none⟩) xs.length xs.length) xs := by
  refine ⟨fun k hk => trivial, inner, ?_, ?_⟩
  · have h2 := World.ownsRow_lit (base := W.heap.size) (e := e) (size := d.sz) W inner.toArray xs.length (Nat.le_refl _) (by simpa [maxLen] using hm) (by simpa using hrep.1)
    simpa using h2
  · refine hrep.imp_ (fun p c hp => d.M_mono (fun k hk => ⟨trivial, fun he => ?_⟩) (Kd.M_below (d.M_bound hp) (below_alloc (Below.refl _ _) _)))
    have h3 : k = W.heap.size := by simpa [Value.ownBlock] using he
    have := hk.2.2
    omega
theorem lit_ob (W : World) (xs : List Int) (C : Array Value) (hC : C = (nums .u8 xs).toArray) (hm : xs.length ≤ 1000) : Ob (W.alloc (.cells C 5)) W.heap.size (.slice (some ⟨W.heap.size, 0, none⟩) xs.length xs.length) xs := by
  subst hC
  exact lit_R (Kd.int .u8) W _ (okp := fun _ => True) (Kd.reps_scalar (enc := Value.int .u8) xs) (by omega)
/-- What is summed, by the document. -/
abbrev MakesU (w : World) (l : List Int) : Ending → World → Prop := fun e w' => ∃ v, e = .returned v ∧ Ob w' w.heap.size v l ∧ Below w.heap.size w w'
set_option maxHeartbeats 4000000 in
set_option maxRecDepth 100000 in
theorem rleafx_c (a : List Int) (ha : a.length = 32) (w : World) : Calls Try.prog 59 #[sumV a] w (MakesU w (leafX a)) := by
  obtain ⟨A, hA⟩ := sumF a ha
  have HA := Aside0.mk hA
  unfold MakesU
  rw [hA.v]
  clear ha hA
  have HG := Aside0.mk (show (w.alloc (.cells A 24)).heap[w.heap.size]? = some (.cells A 24 (0, 0)) from blk_new _ _)
  have HB := Aside0.mk (show Below w.heap.size w (w.alloc (.cells A 24)) from below_alloc (Below.refl _ _) _)
  go_enter Try.func59, Try.ntmps59
  go_wp2_with (first
    | ((with_reducible refine gate_dst (N := 3) rfl ?_); (try (refine gate_guard (by rfl) ?_; dsimp only)); refine lit_bytes (N := 3) ?hg ?hd [3] [.int .u8 (3)] rfl ?hr (by simp) ?_; (case hd => rfl); (case hg => rfl); (case hr => first | (go_simp; done) | (go_simp; rfl)); intro v w1 ho hb; have n2_ := Aside0.mk (below_step HB.out hb); have n4_ := Aside0.mk (blk_below HG.out hb); have HO := Aside0.mk (Kd.R_lower ho HB.out.size); clear HB HG; have HB := n2_; have HG := n4_; clear n2_ n4_ hb ho)
    | ((with_reducible refine gate_builtin (b := .append) (xs := #[.tmp 3, .tmp 4]) rfl ?_); at_builtin; refine Kd.R_append_rows (Kd.int .u8) (w0 := w) w.heap.size rfl (.tmp 3) (.tmp 4) 22 5 (.int .u8 0) 1 rfl Try.underlying22 info_u8 rfl (by decide) (by omega) _ [3] a _ _ _ (fun _ => True) (fun _ => False) rfl rfl HO.out (c32 HG.out HA.out.eq HA.out.len) (fun _ _ h => h) (fun _ h => h.elim) (fun _ _ => trivial) HB.out HB.out.size (by have := HA.out.len; simp only [List.length_singleton]; omega) ?_; intro v1 w5 ho hb hg hat; have HO5 := Aside0.mk ho; have HB5 := Aside0.mk hb; clear ho hb hg hat))
  go_ret
  exact ⟨_, rfl, HO5.out, HB5.out⟩
set_option maxHeartbeats 4000000 in
set_option maxRecDepth 100000 in
theorem rnodex_c (a b : List Int) (ha : a.length = 32) (hb : b.length = 32) (w : World) : Calls Try.prog 61 #[sumV a, sumV b] w (MakesU w (nodeX a b)) := by
  obtain ⟨P, hP⟩ := sumF a ha
  obtain ⟨C, hC⟩ := sumF b hb
  have HP := Aside0.mk hP
  have HC := Aside0.mk hC
  unfold MakesU
  rw [hP.v, hC.v]
  clear ha hb hP hC
  have HG := Aside0.mk (show ((w.alloc (.cells P 24)).alloc (.cells C 24)).heap[w.heap.size]? = some (.cells P 24 (0, 0)) from blk_alloc (blk_new _ _) _)
  have HH := Aside0.mk (show ((w.alloc (.cells P 24)).alloc (.cells C 24)).heap[w.heap.size + 1]? = some (.cells C 24 (0, 0)) from second_new' _ _ _)
  have HB := Aside0.mk (show Below w.heap.size w ((w.alloc (.cells P 24)).alloc (.cells C 24)) from below_alloc (below_alloc (Below.refl _ _) _) _)
  go_enter Try.func61, Try.ntmps61
  go_wp2_with (fail)
  obtain ⟨W, hW⟩ : ∃ W, (w.alloc (.cells P 24)).alloc (.cells C 24) = W := ⟨_, rfl⟩
  rw [hW] at HG HH HB ⊢
  clear hW
  obtain ⟨g0, hg0⟩ : ∃ g, w.heap.size = g := ⟨_, rfl⟩
  have HG0 := Aside0.mk hg0
  rw [hg0] at HG HH ⊢
  clear hg0
  refine wp_region_held_drew (S := fun _ => True) (by kernel_rfl) trivial (fun hHeld => ?_)
  (refine wpAnyH_take (i := 1) (v := ?_) rfl (by kernel_rfl) (by kernel_rfl) (by kernel_rfl) (fun _ _ _ h => h) (Or.inl ⟨by rfl, ?_⟩) (by assumption) ?_; (case' refine_2 => (intro w hSw; go_simp; try with_reducible rfl)); (try simp only [Act.put, List.getElem_toArray, List.getElem_cons_zero, List.getElem_cons_succ, List.setIfInBounds_toArray, List.set_cons_zero, List.set_cons_succ]))
  (refine wpAnyH_take (i := 3) (v := ?_) rfl (by kernel_rfl) (by kernel_rfl) (by kernel_rfl) (fun _ _ _ h => h) (Or.inl ⟨by rfl, ?_⟩) (by assumption) ?_; (case' refine_2 => (intro w hSw; go_simp; try with_reducible rfl)); (try simp only [Act.put, List.getElem_toArray, List.getElem_cons_zero, List.getElem_cons_succ, List.setIfInBounds_toArray, List.set_cons_zero, List.set_cons_succ]))
  (refine wpAnyH_ready (rs := [0]) (by kernel_rfl) (by simp) (AllReadyH.cons rfl (fun K hK => ?_) AllReadyH.nil); go_simp)
  have HO := Aside0.mk (show Ob (W.alloc (.cells #[.int .u8 4] 5)).drew W.heap.size (.slice (some ⟨W.heap.size, 0, none⟩) 1 1) [4] from Kd.R_drew (lit_ob W [4] _ rfl (by decide)))
  have hb' : Below W.heap.size W (W.alloc (.cells #[.int .u8 4] 5)).drew := below_drew (below_alloc (Below.refl W.heap.size W) (.cells #[.int .u8 4] 5))
  have HG3 := Aside0.mk (blk_below HG.out hb')
  have HH3 := Aside0.mk (blk_below HH.out hb')
  have HB3 := Aside0.mk (below_step HB.out hb')
  have HO1 := Aside0.mk (Kd.R_lower HO.out HB.out.size)
  clear hb' HO
  obtain ⟨w3, hw3⟩ : ∃ w3, (W.alloc (.cells #[.int .u8 4] 5)).drew = w3 := ⟨_, rfl⟩
  rw [hw3] at HO1 HG3 HH3 HB3 ⊢
  clear hw3
  obtain ⟨v0, hv0⟩ : ∃ v, Value.slice (some (⟨W.heap.size, 0, none⟩ : Addr)) 1 1 = v := ⟨_, rfl⟩
  rw [hv0] at HO1 ⊢
  clear hv0
  (refine Shut.out hK _ _ trivial (fun hHeld => ?_); clear hK K; (try simp only [Act.put, List.getElem_toArray, List.getElem_cons_zero, List.getElem_cons_succ, List.setIfInBounds_toArray, List.set_cons_zero, List.set_cons_succ]))
  refine wpAnyH_ready (rs := [2]) (by kernel_rfl) (by simp) (AllReadyH.cons rfl (fun K hK => ?_) AllReadyH.nil)
  refine Kd.R_append_rows_step (Kd.int .u8) (w0 := w) w.heap.size rfl (.tmp 5) (.tmp 6) 22 5 (.int .u8 0) 1 rfl Try.underlying22 info_u8 rfl (by decide) (by omega) v0 [4] a _ _ _ (fun _ => True) (fun _ => False) rfl rfl HO1.out (c32 HG3.out HP.out.eq HP.out.len) (fun _ _ h => h) (fun _ h => h.elim) (fun _ _ => trivial) HB3.out HB3.out.size (by have := HP.out.len; simp only [List.length_singleton]; omega) ?_
  intro v2 w6 ho hb hg hat
  have HO2 := Aside0.mk ho
  have HB2 := Aside0.mk hb
  have HH2 := Aside0.mk (blk_grown HH3.out hg (Kd.R_ne HO1.out HH3.out (by decide)))
  clear ho hb hg hat
  (refine Shut.out hK _ _ trivial (fun hHeld => ?_); clear hK K; (try simp only [Act.put, List.getElem_toArray, List.getElem_cons_zero, List.getElem_cons_succ, List.setIfInBounds_toArray, List.set_cons_zero, List.set_cons_succ]))
  refine wpAnyH_ready (rs := [4]) (by kernel_rfl) (by simp) (AllReadyH.cons rfl (fun K hK => ?_) AllReadyH.nil)
  refine Kd.R_append_rows_step (Kd.int .u8) (w0 := w) w.heap.size rfl (.tmp 7) (.tmp 8) 22 5 (.int .u8 0) 1 rfl Try.underlying22 info_u8 rfl (by decide) (by omega) v2 ([4] ++ a) b _ _ _ (fun _ => True) (fun _ => False) rfl rfl HO2.out (c32 HH2.out HC.out.eq HC.out.len) (fun _ _ h => h) (fun _ h => h.elim) (fun _ _ => trivial) HB2.out HB2.out.size (by have := HP.out.len; have := HC.out.len; simp only [List.length_append, List.length_singleton]; omega) ?_
  intro v3 w7 ho hb hg hat
  have HO3 := Aside0.mk (show Ob w7 w.heap.size v3 (nodeX a b) from ho)
  have HB3 := Aside0.mk hb
  clear ho hb hg hat
  (refine Shut.out hK _ _ trivial (fun hHeld => ?_); clear hK K; (try simp only [Act.put, List.getElem_toArray, List.getElem_cons_zero, List.getElem_cons_succ, List.setIfInBounds_toArray, List.set_cons_zero, List.set_cons_succ]))
  (refine wpAnyH_take (i := 5) (v := ?_) rfl (by kernel_rfl) (by kernel_rfl) (by kernel_rfl) (fun _ _ _ h => h) (Or.inl ⟨by rfl, ?_⟩) (by assumption) ?_; (case' refine_2 => (intro w hSw; go_simp; try with_reducible rfl)); (try simp only [Act.put, List.getElem_toArray, List.getElem_cons_zero, List.getElem_cons_succ, List.setIfInBounds_toArray, List.set_cons_zero, List.set_cons_succ]))
  refine wpAnyH_done (by kernel_rfl) ?_ _
  go_wp2_with (fail)
  go_ret
  exact ⟨_, rfl, HO3.out, HB3.out⟩
end Go.Proofs.Ytbebkogkeepfoaa.Tree
-- printed for this claim by a program (pall.sh)
-- mended by fixpz.py
namespace Go.Proofs.Ytbebkogkeepfoaa.PZ
open Go.RowKit Go.Proofs.YtbebkogkeepfoaaW.PrintWords Go.Proofs.YtbebkogkeepfoaaW.PrintLast Go.Proofs.YtbebkogkeepfoaaW.PrintMore
attribute [local go_sem] max2_int min2_int max_two min_two max_three min_three max_four min_four   -- for this text's walks alone
set_option linter.unusedVariables false
set_option linter.unusedSimpArgs false

/-! ### hanaperref26_half: function 60 -/
def hanaperref26_half.l0 : Nat → Int → Int → Option (Int)
 | 0, _, _ => none
 | k + 1, x0, x3 => if (wrap64 (2 * x3)) < x0 then (hanaperref26_half.l0 k x0 (wrap64 (2 * x3))) else (some x3)
def hanaperref26_half.f (k : Nat) (a0 : Int) : Option (Int) := hanaperref26_half.l0 k a0 1
set_option maxHeartbeats 8000000 in
set_option maxRecDepth 100000 in
theorem hanaperref26_half.calls (k : Nat) (a0 : Int) (r : Int) (w : World) (h : hanaperref26_half.f k a0 = some r) :
  Calls Try.prog 60 #[.int .i64 a0] w fun e w' => e = .returned (.int .i64 r) ∧ Drawn0 w w' := by
 have H : (hanaperref26_half.l0 k a0 1) = some r := h
 clear h
 have H' := Aside0.mk H
 clear H
 go_enter Try.func60, Try.ntmps60
 go_wp2
 go_loopg [3] k (fun kq v3 w' => ∃ (x3_1 : Int), v3 = .int .i64 x3_1 ∧ Aside0 (hanaperref26_half.l0 kq a0 x3_1 = some r) ∧ Aside0 (kq ≤ k) ∧ Drawn0 w w')
 case atStart => exact ⟨(1), (by first | rfl | (simp; done) | (simp [*]; done)), H', ⟨Nat.le_refl _⟩, by repeat (first | exact Drawn0.refl _ | apply Drawn0.step)⟩
 case round =>
  clear H'
  obtain ⟨x3_1, rfl, HA, HK1, ⟨m1, rfl⟩⟩ := hrel
  cases gk with
  | zero => exact absurd HA.out (by simp [hanaperref26_half.l0])
  | succ k1 =>
   have H := HA.out
   clear HA
   simp only [hanaperref26_half.l0] at H
   by_cases c2 : (wrap64 (2 * x3_1)) < a0
   ·rw [if_pos c2] at H
    have c2b0 : decide ((wrap64 (2 * x3_1)) < a0) = true := decide_eq_true c2
    clear c2
    have H' := Aside0.mk H
    clear H
    go_wp2
    go_roundg k1
    case measure => have := HK1.out; omega
    case rel => exact ⟨(wrap64 (2 * x3_1)), (by first | rfl | (simp; done) | (simp [*]; done)), H', ⟨by have := HK1.out; omega⟩, by repeat (first | exact Drawn0.refl _ | apply Drawn0.step)⟩
   ·rw [if_neg c2] at H
    have c2b0 : decide ((wrap64 (2 * x3_1)) < a0) = false := decide_eq_false c2
    clear c2
    obtain rfl := Option.some.inj H
    go_wp2
    go_ret
    exact ⟨by first | rfl | (simp; done) | (simp [*]; done), by repeat (first | exact Drawn0.refl _ | apply Drawn0.step)⟩

end Go.Proofs.Ytbebkogkeepfoaa.PZ
-- printed for this claim by a program (pall.sh)
-- mended by fixpz.py
namespace Go.Proofs.Ytbebkogkeepfoaa.PZ
open Go.RowKit Go.Proofs.YtbebkogkeepfoaaW.PrintWords Go.Proofs.YtbebkogkeepfoaaW.PrintLast Go.Proofs.YtbebkogkeepfoaaW.PrintMore
attribute [local go_sem] max2_int min2_int max_two min_two max_three min_three max_four min_four   -- for this text's walks alone
set_option linter.unusedVariables false
set_option linter.unusedSimpArgs false

end Go.Proofs.Ytbebkogkeepfoaa.PZ
/- tree: how many bits a number has; the greatest power of two below one. -/
namespace Go.Proofs.Ytbebkogkeepfoaa.Tree
set_option linter.unusedVariables false
set_option linter.unusedSimpArgs false
open Go.RowKit Go.Proofs.Ytbebkogkeepfoaa.PZ Go.Proofs.Ytbebkogkeepfoaa.Aid Go.Proofs.Ytbebkogkeepfoaa.Base Go.Proofs.YtbebkogkeepfoaaW.PrintWords Go.Proofs.YtbebkogkeepfoaaW.PrintLast Go.Proofs.YtbebkogkeepfoaaW.PrintMore
theorem bitLen_log (n : Nat) (h : n ≠ 0) (h1 : n < 2 ^ 64) : Lib.bitLen n = Nat.log2 n + 1 := by
  induction n using Nat.strongRecOn with
  | ind n ih =>
    rw [Lib.bitLen_half n h h1, Nat.log2_def]
    by_cases h2 : n / 2 = 0
    · have : n = 1 := by omega
      subst this
      decide
    · rw [ih (n / 2) (by omega) h2 (by omega), if_pos (by omega)]
      omega
theorem log_lt {n e : Nat} (h : n ≠ 0) (h1 : n < 2 ^ e) : Nat.log2 n < e := (Nat.log2_lt h).2 h1
theorem wrap_pow (k : Nat) (h : k < 62) : wrap64 ((2 : Int) ^ k) = ((2 ^ k : Nat) : Int) := by
  have : ∀ k : Fin 62, wrap64 ((2 : Int) ^ k.val) = ((2 ^ k.val : Nat) : Int) := by decide +kernel
  exact this ⟨k, h⟩
theorem below_c (n : Nat) (h : 2 ≤ n) (hm : n ≤ 4611686018427387904) (w : World) :
    Calls Try.prog 57 #[.int .i64 (n : Int)] w fun e w' => e = .returned (.int .i64 ((hlf n : Nat) : Int)) ∧ w' = w := by
  have hl := bitLen_log (n - 1) (by omega) (by omega)
  have hk := log_lt (n := n - 1) (e := 62) (by omega) (by have : (2 : Nat) ^ 62 = 4611686018427387904 := by decide
                                                          omega)
  have e3 : wrap64 ((2 : Int) ^ (Nat.log2 (n - 1))) = ((hlf n : Nat) : Int) := wrap_pow _ (by omega)
  have HC := fun W => len_c ((n : Int) - 1) W (by omega) (by omega)
  rw [show ((n : Int) - 1).toNat = n - 1 by omega, hl] at HC
  obtain ⟨L, hL⟩ : ∃ L, Nat.log2 (n - 1) = L := ⟨_, rfl⟩
  rw [hL] at HC e3 hk
  clear hl hL
  go_enter Try.func57, Try.ntmps57
  go_wp2_with (go_at_call 66; refine (HC _).mono ?_; rintro e w' ⟨rfl, rfl⟩)
  go_ret
  exact ⟨by rw [← e3]; rfl, rfl⟩
theorem half_l (n : Nat) (h : 2 ≤ n) (hm : n ≤ 4611686018427387904) : ∀ d j : Nat, j + d = Nat.log2 (n - 1) → Ev (fun k => hanaperref26_half.l0 k (n : Int) ((2 ^ j : Nat) : Int)) (hlf n : Int) := by
  have h1 := Nat.log2_self_le (show n - 1 ≠ 0 by omega)
  have h2 := Nat.lt_log2_self (n := n - 1)
  rw [Nat.pow_succ] at h2
  intro d
  induction d with
  | zero =>
    intro j hj
    have : j = Nat.log2 (n - 1) := by omega
    subst this
    refine Ev.step (fun k => by simp only [hanaperref26_half.l0]; rfl) ?_
    rw [w64 (by omega) (by omega)]
    exact neg (by omega) (now rfl)
  | succ d ih =>
    intro j hj
    have h3 : 2 ^ (j + 1) ≤ 2 ^ Nat.log2 (n - 1) := Nat.pow_le_pow_right (by decide) (by omega)
    rw [Nat.pow_succ] at h3
    refine Ev.step (fun k => by simp only [hanaperref26_half.l0]; rfl) ?_
    rw [w64 (by omega) (by omega)]
    refine pos (by omega) ?_
    rw [show (2 : Int) * ((2 ^ j : Nat) : Int) = ((2 ^ (j + 1) : Nat) : Int) by rw [Nat.pow_succ]; omega]
    exact ih (j + 1) (by omega)
theorem half_c (n : Nat) (h : 2 ≤ n) (hm : n ≤ 4611686018427387904) (w : World) :
    Calls Try.prog 60 #[.int .i64 (n : Int)] w fun e w' => e = .returned (.int .i64 ((hlf n : Nat) : Int)) ∧ Drawn0 w w' := by
  have he : Ev (fun k => hanaperref26_half.f k (n : Int)) (hlf n : Int) := half_l n h hm (Nat.log2 (n - 1)) 0 (by omega)
  obtain ⟨k, hk⟩ := he
  replace hk := hk k (Nat.le_refl _)
  exact hanaperref26_half.calls k _ _ w hk
end Go.Proofs.Ytbebkogkeepfoaa.Tree
/- tree: Root walked; the document's. -/
namespace Go.Proofs.Ytbebkogkeepfoaa.Tree
set_option linter.unusedVariables false
set_option linter.unusedSimpArgs false
open Go.RowKit Go.Proofs.Ytbebkogkeepfoaa.Base Go.Proofs.Ytbebkogkeepfoaa.TlvPlain Go.Proofs.Ytbebkogkeepfoaa.ShaPlain Go.Proofs.Ytbebkogkeepfoaa.Sha Go.Proofs.Ytbebkogkeepfoaa.Com Go.Proofs.Ytbebkogkeepfoaa.Aid Go.Proofs.YtbebkogkeepfoaaW.PrintWords Go.Proofs.YtbebkogkeepfoaaW.PrintLast Go.Proofs.YtbebkogkeepfoaaW.PrintMore
abbrev KS : Kd (List Int) := Kd.arr 32 (Kd.int .u8) (by decide)
/-- Sums that are read; sums of one's own. -/
abbrev Rs (w : World) (A : Option Addr) (l : List Sm) : Prop := Kd.C KS w A l.length l
abbrev Os (w : World) (base : Nat) (v : Value) (l : List Sm) : Prop := Kd.R KS 24 w base (fun _ => True) v l
def Lu (l : List Sm) : Prop := ∀ x ∈ l, x.length = 32 ∧ U8' x
theorem Lu.take {l : List Sm} (h : Lu l) (k : Nat) : Lu (l.take k) := fun x hx => h x (List.mem_of_mem_take hx)
theorem Lu.drop {l : List Sm} (h : Lu l) (k : Nat) : Lu (l.drop k) := fun x hx => h x (List.mem_of_mem_drop hx)
def AtC (w : World) (ad : Addr) (cs : List Value) : Prop := ∀ j v, cs[j]? = some v → w.cell? (ad.add j) = some v
theorem addr_add_add (a : Addr) (i j : Nat) : (a.add i).add j = a.add (i + j) := by
  unfold Addr.add
  by_cases hi : i = 0
  · subst hi; simp
  · by_cases hj : j = 0
    · subst hj; simp
    · rw [if_neg hi, if_neg hj, if_neg (by omega), Nat.add_assoc]
theorem rs_at {w : World} {A : Option Addr} {l : List Sm} (h : Rs w A l) (i : Nat) (hi : i < l.length) : ∃ ad, A = some ad ∧ AtC w (ad.add (i * 32)) (nums .u8 l[i]) ∧ l[i].length = 32 := by
  obtain ⟨ad, c, hA, _, hK, hc⟩ := Kd.C_get h Z (i : Int) (by omega) (by omega)
  rw [Int.toNat_natCast, List.getD_eq_getElem?_getD, List.getElem?_eq_getElem hi, Option.getD_some] at hK
  have e := Open.nums_arr hK
  subst e
  refine ⟨ad, hA, fun j v hj => ?_, hK.1⟩
  rw [addr_add_add]
  exact hc j v hj
section
variable {P : Program}
theorem run_loadVar_at (w : World) (ad : Addr) (ty : TypeId) (cs : List Value) (d : TypeDesc) (hc : AtC w ad cs)
    (hu : P.underlying ty = some d) (hd : d.isRow = true) (hi : (P.info? ty).map (·.size) = some cs.length) :
    (loadVar ty ad).run P w = .ok (.agg cs.toArray) w := by
  have hl : (loadCells ad cs.length).run P w = .ok cs.toArray w := run_loadCells_list (P := P) w ad cs hc
  cases hq : P.info? ty with
  | none => simp [hq] at hi
  | some i =>
    have hs : i.size = cs.length := by simpa [hq] using hi
    have hagg : (isAgg ty).run P w = .ok true w := by
      unfold isAgg
      rw [Sem.run_bind, run_underlying hu w]
      cases d <;> simp_all
    simp [loadVar, Sem.run_bind, hagg, sizeOf, typeInfo, hq, hs, hl]
theorem wpList_load_at {ops : Array Oper} {rest : List Oper} {op : Oper} {a : Act} {w : World} {Q : Exit → Act → World → Prop} (hgd : op.guard = none) (ty : TypeId) (x : Operand) (ho : op.op = .load ty x)
    (ad : Addr) (hx : a.eval x = .pointer (some ad)) (cs : List Value) (d : TypeDesc) (hc : AtC w ad cs)
    (hu : P.underlying ty = some d) (hd : d.isRow = true) (hi : (P.info? ty).map (·.size) = some cs.length)
    (h : wpList P ops Q rest (a.put op.dst (.agg cs.toArray)) w) : wpList P ops Q (op :: rest) a w :=
  wpList_plain hgd fun _ hK => by
    unfold Oper.wp execOp
    simp only [ho, hx, Instr.loadAt, Instr.sureAddr, Sem.run_bind, Sem.run_pure, Result.andThen_ok, run_loadVar_at w ad ty cs d hc hu hd hi]
    exact hK _ _ h
theorem yieldsIf_load_at {ops : Array Oper} {S : World → Prop} {op : Oper} {a : Act} (hw : Region.wanted op (yielded ops a.tmps) = true) (ty : TypeId) (x : Operand) (ho : op.op = .load ty x)
    (ad : Addr) (hx : a.eval x = .pointer (some ad)) (cs : List Value) (d : TypeDesc) (hS : ∀ w, S w → AtC w ad cs)
    (hu : P.underlying ty = some d) (hd : d.isRow = true) (hi : (P.info? ty).map (·.size) = some cs.length) : YieldsIf P ops S op (.agg cs.toArray) a :=
  .inl ⟨hw, fun w hw' => by
    unfold execOp
    simp only [ho, hx, Instr.loadAt, Instr.sureAddr, Sem.run_bind, Sem.run_pure, Result.andThen_ok, run_loadVar_at w ad ty cs d (hS w hw') hu hd hi]⟩
end
theorem SumF.infoL {D : Array Value} {d : List Int} (h : SumF D d) : (Try.prog.info? 24).map (·.size) = some (nums .u8 d).length := by rw [← h.eq] at *; exact h.info
theorem AtC.below {w w' : World} {ad : Addr} {cs : List Value} (h : AtC w ad cs) (hb : Below w.heap.size w w') : AtC w' ad cs := fun j v hj => (hb.cell (World.block_lt_of_cell? _ _ (h j v hj))).trans (h j v hj)
theorem info_sum : ∃ i, Try.prog.info? 24 = some i ∧ i.size = 32 := by
  have h := info_32
  cases hq : Try.prog.info? 24 with
  | none => rw [hq] at h; cases h
  | some i => rw [hq] at h; exact ⟨i, rfl, by injection h⟩
theorem cut_a (A : Option Addr) (n c k : Nat) (hk : k ≤ n) (hc : n ≤ c) : ∀ W : World, (Instr.slice 52 (.slice A n c) none (some (.int .i64 (k : Int))) none).run Try.prog W = .ok (.slice A k c) W := by
  obtain ⟨i, hi, hs⟩ := info_sum
  intro W
  have := cut_to (P := Try.prog) 52 24 .i64 Try.underlying52 hi A n c (k : Int) (by omega) (by omega) hc W
  rwa [Int.toNat_natCast] at this
/-- Where the rest of a row lies. -/
def restA (A : Option Addr) (c k : Nat) : Option Addr := if c = k then A else A.map (·.add (k * 32))
theorem cut_b (A : Option Addr) (n c k : Nat) (hk : k ≤ n) : ∀ W : World, (Instr.slice 52 (.slice A n c) (some (.int .i64 (k : Int))) none none).run Try.prog W = .ok (.slice (restA A c k) (n - k) (c - k)) W := by
  obtain ⟨i, hi, hs⟩ := info_sum
  intro W
  have := cut_from (P := Try.prog) 52 24 .i64 Try.underlying52 hi 32 hs A n c (k : Int) (by omega) (by omega) W
  rwa [Int.toNat_natCast] at this
theorem Rs.take {w : World} {A : Option Addr} {l : List Sm} (h : Rs w A l) {k : Nat} (hk : k ≤ l.length) : Rs w A (l.take k) := Kd.C_take h hk
theorem Rs.drop {w : World} {A : Option Addr} {l : List Sm} {c : Nat} (h : Rs w A l) {k : Nat} (hk : k ≤ l.length) (hc : l.length ≤ c) : Rs w (restA A c k) (l.drop k) := Kd.C_drop h hk hc
set_option maxHeartbeats 4000000 in
set_option maxRecDepth 100000 in
theorem root_one (a : Sm) (hu : U8' a) (A : Option Addr) (c : Nat) (w : World) (hr : Rs w A [a]) :
    Calls Try.prog 31 #[.slice A 1 c] w (Ret w (leafH a)) := by
  have HZ := Aside0.mk (show (w.alloc (.cells Z32 24)).heap[w.heap.size]? = some (.cells Z32 24 (0, 0)) from blk_new _ _)
  have HB := Aside0.mk (below_alloc (Below.refl w.heap.size w) (.cells Z32 24))
  obtain ⟨D, hD⟩ := sumF (leafH a) (leafH_len a)
  have HD := Aside0.mk hD
  have HIF := Aside0.mk HD.out.info
  unfold Ret
  rw [hD.v]
  obtain ⟨ad, rfl, hat, hal⟩ := rs_at hr 0 (by simp)
  obtain ⟨C, hC⟩ := sumF a hal
  have HA := Aside0.mk (show AtC (w.alloc (.cells Z32 24)) ad (nums .u8 a) from hat.below HB.out)
  have HC := Aside0.mk hC
  have HCI := Aside0.mk hC.infoL
  have HL := Aside0.mk (leaf_c a hal hu)
  unfold Ret at HL
  rw [hC.v, HD.out.v] at HL
  clear hD hr hu hat hal hC
  go_enter Try.func31, Try.ntmps31
  go_wp2_with ((with_reducible refine gate_dst (N := 13) rfl ?_); refine wpList_load_at rfl 24 (.tmp 12) rfl ad rfl (nums .u8 a) _ HA.out Try.underlying24 rfl HCI.out ?_; rw [HC.out.eq])
  refine (HL.out _).mono ?_
  rintro e w6 ⟨rfl, hb6⟩
  have HZ6 := Aside0.mk (blk_below HZ.out hb6)
  have HB6 := Aside0.mk (below_step HB.out hb6)
  clear hb6
  go_wp2_with ((with_reducible refine gate_store (t := 24) (p := 2) (v := .tmp 14) rfl ?_); refine wpList_store_row rfl 24 (.tmp 2) (.tmp 14) rfl w.heap.size D rfl rfl 24 Z32 HZ6.out HIF.out HD.out.zs HD.out.one ?_)
  have HSR := setRow_heap w6 w.heap.size Z32 D _ _ HZ6.out
  refine bodyPost_ret (v := .agg D) (results_cell_row rfl _ _ w.heap.size 24 D (0, 0) _ rfl HSR Try.underlying24 rfl HIF.out) rfl ⟨rfl, below_setRow HB6.out (Nat.le_refl _) D⟩
set_option maxHeartbeats 4000000 in
set_option maxRecDepth 100000 in
theorem root_two (x y : Sm) (hx : x.length = 32) (hy : y.length = 32) (hu : U8' x) (hv : U8' y) (n k : Nat) (hk2 : hlf n = k) (h2 : 2 ≤ n) (hm : n ≤ 1000000) (A : Option Addr) (c : Nat) (hc : n ≤ c) (w : World)
    (hX : ∀ W, Below w.heap.size w W → Calls Try.prog 31 #[.slice A k c] W (Ret W x))
    (hY : ∀ W, Below w.heap.size w W → Calls Try.prog 31 #[.slice (restA A c k) (n - k) (c - k)] W (Ret W y)) :
    Calls Try.prog 31 #[.slice A n c] w (Ret w (nodeH x y)) := by
  have HZ := Aside0.mk (show (w.alloc (.cells Z32 24)).heap[w.heap.size]? = some (.cells Z32 24 (0, 0)) from blk_new _ _)
  have HB := Aside0.mk (below_alloc (Below.refl w.heap.size w) (.cells Z32 24))
  obtain ⟨D, hD⟩ := sumF (nodeH x y) (nodeH_len x y)
  have HD := Aside0.mk hD
  have HIF := Aside0.mk HD.out.info
  have hk := hlf_lt h2
  have HKB := Aside0.mk (fun W => below_c n h2 (by omega) W)
  rw [hk2] at HKB hk
  obtain ⟨X, hX'⟩ := sumF x hx
  obtain ⟨Y, hY'⟩ := sumF y hy
  have HT := Aside0.mk (two_c x y hx hy hu hv)
  unfold Ret at hX hY HT ⊢
  rw [hX'.v] at hX HT
  rw [hY'.v] at hY HT
  rw [HD.out.v] at HT
  have HX := Aside0.mk hX
  have HY := Aside0.mk hY
  rw [hD.v]
  have hc1 := cut_a A n c k (by omega) hc
  have hc2 := cut_b A n c k (by omega)
  have d0 : ((n : Int) == 0) = false := by simp; omega
  have d1 : ((n : Int) == 1) = false := by simp; omega
  have HC1 := Aside0.mk hc1
  have HC2 := Aside0.mk hc2
  clear hD hX hY hX' hY' hx hy hu hv hk hc hm h2 hk2 hc1 hc2
  go_enter Try.func31, Try.ntmps31
  go_wp2_with (go_at_call 57; refine (HKB.out _).mono ?_; rintro e w' ⟨rfl, rfl⟩)
  obtain ⟨W, hW⟩ : ∃ W, w.alloc (.cells Z32 24) = W := ⟨_, rfl⟩
  rw [hW] at HZ HB
  rw [show w.alloc (.cells #[.int .u8 0, .int .u8 0, .int .u8 0, .int .u8 0, .int .u8 0, .int .u8 0, .int .u8 0, .int .u8 0, .int .u8 0, .int .u8 0, .int .u8 0, .int .u8 0, .int .u8 0, .int .u8 0, .int .u8 0, .int .u8 0, .int .u8 0, .int .u8 0, .int .u8 0, .int .u8 0, .int .u8 0, .int .u8 0, .int .u8 0, .int .u8 0, .int .u8 0, .int .u8 0, .int .u8 0, .int .u8 0, .int .u8 0, .int .u8 0, .int .u8 0, .int .u8 0] 24) = W from hW]
  clear hW
  have hq1 := HC1.out
  have hq2 := HC2.out
  refine wp_region_held_drew (S := fun _ => True) (by kernel_rfl) trivial (fun hHeld => ?_)
  (refine wpAnyH_take (i := 0) (v := ?_) rfl (by kernel_rfl) (by kernel_rfl) (by kernel_rfl) (fun _ _ _ h => h) (Or.inl ⟨by rfl, ?_⟩) (by assumption) ?_; (case' refine_2 => (intro w hSw; go_simp; try with_reducible rfl)); (try simp only [Act.put, List.getElem_toArray, List.getElem_cons_zero, List.getElem_cons_succ, List.setIfInBounds_toArray, List.set_cons_zero, List.set_cons_succ]))
  (refine wpAnyH_take (i := 1) (v := ?_) rfl (by kernel_rfl) (by kernel_rfl) (by kernel_rfl) (fun _ _ _ h => h) (Or.inl ⟨by rfl, ?_⟩) (by assumption) ?_; (case' refine_2 => (intro w hSw; go_simp; try with_reducible rfl)); (try simp only [Act.put, List.getElem_toArray, List.getElem_cons_zero, List.getElem_cons_succ, List.setIfInBounds_toArray, List.set_cons_zero, List.set_cons_succ]))
  (refine wpAnyH_take (i := 2) (v := ?_) rfl (by kernel_rfl) (by kernel_rfl) (by kernel_rfl) (fun _ _ _ h => h) (Or.inl ⟨by rfl, ?_⟩) (by assumption) ?_; (case' refine_2 => (intro w hSw; go_simp; try with_reducible rfl)); (try simp only [Act.put, List.getElem_toArray, List.getElem_cons_zero, List.getElem_cons_succ, List.setIfInBounds_toArray, List.set_cons_zero, List.set_cons_succ]))
  (refine wpAnyH_take (i := 4) (v := ?_) rfl (by kernel_rfl) (by kernel_rfl) (by kernel_rfl) (fun _ _ _ h => h) (Or.inl ⟨by rfl, ?_⟩) (by assumption) ?_; (case' refine_2 => (intro w hSw; go_simp; try with_reducible rfl)); (try simp only [Act.put, List.getElem_toArray, List.getElem_cons_zero, List.getElem_cons_succ, List.setIfInBounds_toArray, List.set_cons_zero, List.set_cons_succ]))
  (refine wpAnyH_take (i := 5) (v := ?_) rfl (by kernel_rfl) (by kernel_rfl) (by kernel_rfl) (fun _ _ _ h => h) (Or.inl ⟨by rfl, ?_⟩) (by assumption) ?_; (case' refine_2 => (intro w hSw; go_simp; try with_reducible rfl)); (try simp only [Act.put, List.getElem_toArray, List.getElem_cons_zero, List.getElem_cons_succ, List.setIfInBounds_toArray, List.set_cons_zero, List.set_cons_succ]))
  (refine wpAnyH_take (i := 6) (v := ?_) rfl (by kernel_rfl) (by kernel_rfl) (by kernel_rfl) (fun _ _ _ h => h) (Or.inl ⟨by rfl, ?_⟩) (by assumption) ?_; (case' refine_2 => (intro w hSw; go_simp; try with_reducible rfl)); (try simp only [Act.put, List.getElem_toArray, List.getElem_cons_zero, List.getElem_cons_succ, List.setIfInBounds_toArray, List.set_cons_zero, List.set_cons_succ]))
  (refine wpAnyH_ready (rs := [3]) (by kernel_rfl) (by simp) (AllReadyH.cons rfl (fun K hK => ?_) AllReadyH.nil); go_simp)
  refine (HX.out _ (below_drew1 HB.out)).mono ?_
  rintro e w3 ⟨rfl, hb⟩
  have HZ3 := Aside0.mk (blk_below HZ.out (below_drew_of hb))
  have HB3 := Aside0.mk (below_step HB.out (below_drew_of hb))
  clear hb
  (refine Shut.out hK _ _ trivial (fun hHeld => ?_); clear hK K; (try simp only [Act.put, List.getElem_toArray, List.getElem_cons_zero, List.getElem_cons_succ, List.setIfInBounds_toArray, List.set_cons_zero, List.set_cons_succ]))
  (refine wpAnyH_ready (rs := [7]) (by kernel_rfl) (by simp) (AllReadyH.cons rfl (fun K hK => ?_) AllReadyH.nil); go_simp)
  refine (HY.out _ HB3.out).mono ?_
  rintro e w4 ⟨rfl, hb⟩
  have HZ4 := Aside0.mk (blk_below HZ3.out hb)
  have HB4 := Aside0.mk (below_step HB3.out hb)
  clear hb
  (refine Shut.out hK _ _ trivial (fun hHeld => ?_); clear hK K; (try simp only [Act.put, List.getElem_toArray, List.getElem_cons_zero, List.getElem_cons_succ, List.setIfInBounds_toArray, List.set_cons_zero, List.set_cons_succ]))
  (refine wpAnyH_ready (rs := [8]) (by kernel_rfl) (by simp) (AllReadyH.cons rfl (fun K hK => ?_) AllReadyH.nil); go_simp)
  refine (HT.out _).mono ?_
  rintro e w6 ⟨rfl, hb⟩
  have HZ6 := Aside0.mk (blk_below HZ4.out hb)
  have HB6 := Aside0.mk (below_step HB4.out hb)
  clear hb
  (refine Shut.out hK _ _ trivial (fun hHeld => ?_); clear hK K; (try simp only [Act.put, List.getElem_toArray, List.getElem_cons_zero, List.getElem_cons_succ, List.setIfInBounds_toArray, List.set_cons_zero, List.set_cons_succ]))
  refine wpAnyH_ready (rs := [9]) (by kernel_rfl) (by simp) (AllReadyH.cons rfl (fun K hK => ?_) AllReadyH.nil)
  rw [if_pos (by rfl)]
  refine wp_store_row 24 (.tmp 2) (.tmp 26) rfl w.heap.size D rfl rfl 24 Z32 HZ6.out HIF.out HD.out.zs HD.out.one ?_
  (refine Shut.out hK _ _ trivial (fun hHeld => ?_); clear hK K; (try simp only [Act.put, List.getElem_toArray, List.getElem_cons_zero, List.getElem_cons_succ, List.setIfInBounds_toArray, List.set_cons_zero, List.set_cons_succ]))
  refine wpAnyH_done (by kernel_rfl) ?_ _
  go_wp2_with (fail)
  have HSR := setRow_heap w6 w.heap.size Z32 D _ _ HZ6.out
  refine bodyPost_ret (v := .agg D) (results_cell_row rfl _ _ w.heap.size 24 D (0, 0) _ rfl HSR Try.underlying24 rfl HIF.out) rfl ⟨rfl, below_setRow HB6.out (Nat.le_refl _) D⟩
set_option maxHeartbeats 4000000 in
set_option maxRecDepth 100000 in
theorem root_nil (A : Option Addr) (c : Nat) (w : World) : Calls Try.prog 31 #[.slice A 0 c] w (Ret w Z) := by
  have HZ := Aside0.mk (show (w.alloc (.cells Z32 24)).heap[w.heap.size]? = some (.cells Z32 24 (0, 0)) from blk_new _ _)
  have HB := Aside0.mk (below_alloc (Below.refl w.heap.size w) (.cells Z32 24))
  have HIF := Aside0.mk (show (Try.prog.info? 24).map (·.size) = some Z32.size from info_32)
  have HON := Aside0.mk (show Z32.all (·.oneCell') = true from nums_one _ _)
  show Calls _ _ _ _ (fun e w' => e = .returned (.agg Z32) ∧ Below w.heap.size w w')
  go_enter Try.func31, Try.ntmps31
  go_wp2_with ((with_reducible refine gate_store (t := 24) (p := 2) (v := .tmp 8) rfl ?_); refine wpList_store_row rfl 24 (.tmp 2) (.tmp 8) rfl w.heap.size Z32 rfl rfl 24 Z32 HZ.out HIF.out rfl HON.out ?_)
  have HSR := setRow_heap (w.alloc (.cells Z32 24)) w.heap.size Z32 Z32 _ _ HZ.out
  refine bodyPost_ret (v := .agg Z32) (results_cell_row rfl _ _ w.heap.size 24 Z32 (0, 0) _ rfl HSR Try.underlying24 rfl HIF.out) rfl ⟨rfl, below_setRow HB.out (Nat.le_refl _) Z32⟩
theorem root_c : ∀ (n : Nat) (l : List Sm), l.length = n → n ≤ 1000000 → ∀ (A : Option Addr) (c : Nat) (w : World), Rs w A l → n ≤ c → Lu l →
    Calls Try.prog 31 #[.slice A n c] w (Ret w (rootT l)) := by
  intro n
  induction n using Nat.strongRecOn with
  | ind n ih =>
  intro l hn hm A c w hr hc hu
  by_cases h0 : n = 0
  · subst h0
    have h1 : l = [] := List.length_eq_zero_iff.1 hn
    subst h1
    rw [rootT_nil]
    exact root_nil A c w
  · by_cases h1 : n = 1
    · subst h1
      obtain ⟨a, rfl⟩ := List.length_eq_one_iff.1 hn
      rw [rootT_one]
      exact root_one a (hu a (by simp)).2 A c w hr
    · have hk := hlf_lt (n := n) (by omega)
      have hp := hlf_pos n
      rw [rootT_two (l := l) (by omega), hn]
      exact root_two _ _ (rootT_len _) (rootT_len _) (rootT_u8 _) (rootT_u8 _) n _ rfl (by omega) hm A c hc w
        (fun W hW => ih _ hk (l.take (hlf n)) (by rw [List.length_take]; omega) (by omega) A c W (Rs.take (Kd.C_below hr hW) (by omega)) (by omega) (hu.take _))
        (fun W hW => ih (n - hlf n) (by omega) (l.drop (hlf n)) (by rw [List.length_drop]; omega) (by omega) _ (c - hlf n) W (Rs.drop (Kd.C_below hr hW) (by omega) (by omega)) (by omega) (hu.drop _))
end Go.Proofs.Ytbebkogkeepfoaa.Tree
/- slices.Reverse at sums, in a row of one's own. -/
namespace Go.Proofs.Ytbebkogkeepfoaa.Tree
set_option linter.unusedVariables false
set_option linter.unusedSimpArgs false
open Go.RowKit Go.Proofs.Ytbebkogkeepfoaa.Base Go.Proofs.Ytbebkogkeepfoaa.TlvPlain Go.Proofs.Ytbebkogkeepfoaa.ShaPlain Go.Proofs.Ytbebkogkeepfoaa.Sha Go.Proofs.Ytbebkogkeepfoaa.Com Go.Proofs.Ytbebkogkeepfoaa.Aid Go.Proofs.YtbebkogkeepfoaaW.PrintWords Go.Proofs.YtbebkogkeepfoaaW.PrintLast Go.Proofs.YtbebkogkeepfoaaW.PrintMore
section
variable {P : Program} {o : Oper} {a : Act} {Q : Exit → Act → World → Prop} {Kc : Act → World → Prop} {α : Type} {W : World}
theorem wp_load_at (ty : TypeId) (x : Operand) (ho : o.op = .load ty x) (ad : Addr) (hx : a.eval x = .pointer (some ad)) (cs : List Value) (d : TypeDesc) (hc : AtC W ad cs)
    (hu : P.underlying ty = some d) (hd : d.isRow = true) (hi : (P.info? ty).map (·.size) = some cs.length) (h : Kc (a.put o.dst (.agg cs.toArray)) W) : Oper.wp P o a W Kc Q := by
  unfold Oper.wp execOp
  simp only [ho, hx, Instr.loadAt, Instr.sureAddr, Sem.run_bind, Sem.run_pure, Result.andThen_ok, run_loadVar_at W ad ty cs d hc hu hd hi]
  exact h
/-- out[i] = x, beside others that have come up: the row, its neighbours, the world as letters. -/
theorem wp_R_store (d : Kd α) {w0 : World} (base : Nat) (hN : o.dst = none) (t : TypeId) (p x : Operand) (ho : o.op = .store t p x) (e : TypeId) {g n cap o' : Nat} (i : Int) (j : Nat) (xs : List α) (x' : α) (u : Value) (seg c : List Value) (ok okp : Nat → Prop)
    (haddr : a.eval p = .pointer (some ⟨g, o', none⟩)) (hoff : o' = i.toNat * d.sz + j) (hx : a.eval x = u) (hu : u.cells.toList = seg) (ht : (P.info? t).map (·.size) = some seg.length) (h1 : ∀ q ∈ seg, q.oneCell' = true)
    (HO : d.R e W base ok (.slice (some ⟨g, 0, none⟩) n cap) xs) (h0 : 0 ≤ i) (hi : i < n) (hcl : c.length = d.sz) (hcc : ∀ j u, c[j]? = some u → W.cell? ⟨g, i.toNat * d.sz + j, none⟩ = some u)
    (hj : j + seg.length ≤ d.sz) (hM : d.M W base okp x' (c.take j ++ seg ++ c.drop (j + seg.length))) (hokp : ∀ k, okp k → ok k ∧ k ≠ g) (HB : Below base w0 W)
    (h : ∀ w1, d.R e w1 base ok (.slice (some ⟨g, 0, none⟩) n cap) (xs.set i.toNat x') → Below base w0 w1 → W.grownBy w1 (some g) → Kc a w1) : Oper.wp P o a W Kc Q := by
  subst hoff
  obtain ⟨hrow, hg⟩ := Kd.R_seg HO i h0 hi hcl hcc hj hM hokp
  have hbg : base ≤ g := Kd.R_base HO g (by simp [Value.ownBlock])
  have hnx : n = xs.length := (Kd.R_reads' HO).1
  obtain ⟨_, inner, hown, hr⟩ := HO
  have hil : i.toNat < n := by omega
  have hB : Below base w0 (W.setCells g (i.toNat * d.sz + j) seg) := HB.trans ⟨hg.os, hg.tape, hg.output, hg.size, fun k hk => by
    have hlt : k < W.heap.size ∨ W.heap.size ≤ k := Nat.lt_or_ge _ _
    rcases hlt with hlt | hge
    · exact hg.block k hlt (fun he => by injection he with he; omega)
    · exact setCells_far seg _ k (by omega)⟩
  have hrun : (Instr.storeAt t (.pointer (some ⟨g, i.toNat * d.sz + j, none⟩)) u).run P W = .ok () (W.setCells g (i.toNat * d.sz + j) seg) := by
    rcases hown.2 with ⟨hv, _⟩ | ⟨g', cap', cur, hv, hb, hh, hnc, hcm, hcs, _⟩
    · cases hv
    injection hv with ha _ hc
    injection ha with ha
    injection ha with hg'
    subst hg'; subst hc
    refine run_store_run t u seg hh hu ht ?_ h1
    have h2 : i.toNat * d.sz + d.sz ≤ n * d.sz := by rw [← Nat.succ_mul]; exact Nat.mul_le_mul_right _ hil
    have h3 : n * d.sz ≤ cap * d.sz := Nat.mul_le_mul_right _ (by omega)
    omega
  unfold Oper.wp execOp
  simp only [ho, haddr, hx, Sem.run_bind, Sem.run_pure, Result.andThen_ok, hrun]
  show Kc (a.put o.dst undef) _
  rw [hN]
  exact h _ hrow hB hg
end
/-- A sum into an own row of sums. -/
theorem wp_sum_store {P : Program} {o : Oper} {a : Act} {Q : Exit → Act → World → Prop} {Kc : Act → World → Prop} {W w0 : World} (base : Nat) (hN : o.dst = none) (p x : Operand) (ho : o.op = .store 24 p x) {g n cap o' : Nat} (i : Nat) (xs : List Sm) (x' : Sm)
    (haddr : a.eval p = .pointer (some ⟨g, o', none⟩)) (hoff : o' = i * 32) (hx : a.eval x = .agg (nums .u8 x').toArray) (hl : x'.length = 32) (hinf : (P.info? 24).map (·.size) = some 32)
    (HO : Os W base (.slice (some ⟨g, 0, none⟩) n cap) xs) (hi : i < n) (HB : Below base w0 W)
    (h : ∀ w1, Os w1 base (.slice (some ⟨g, 0, none⟩) n cap) (xs.set i x') → Below base w0 w1 → W.grownBy w1 (some g) → Kc a w1) : Oper.wp P o a W Kc Q := by
  have hln : (nums .u8 x').length = 32 := by simp [nums, hl]
  obtain ⟨c, hcl, hcm, hcc, _⟩ := Kd.R_elem HO Z (i : Int) (by omega) (by omega)
  refine wp_R_store KS base hN 24 p x ho 24 (i : Int) 0 xs x' (.agg (nums .u8 x').toArray) (nums .u8 x') c (fun _ => True) (fun _ => False) haddr (by rw [hoff]; rfl) hx (by simp [Value.cells]) (by rw [hln]; exact hinf)
    (fun q hq => by simp only [nums, List.mem_map] at hq; obtain ⟨y, _, rfl⟩ := hq; rfl) HO (by omega) (by omega) hcl hcc (by rw [hln]; exact Nat.le_refl _) ?_ (fun _ h => h.elim) HB (by rw [Int.toNat_natCast]; exact h)
  rw [List.take_zero, List.nil_append, Nat.zero_add, hln, List.drop_of_length_le (by rw [hcl]; exact Nat.le_refl _), List.append_nil]
  exact Kd.arr_of_cells hl
/-- An element of an own row, as cells. -/
theorem os_at {W : World} {base g n cap : Nat} {xs : List Sm} (HO : Os W base (.slice (some ⟨g, 0, none⟩) n cap) xs) (i : Nat) (hi : i < n) : AtC W ⟨g, i * 32, none⟩ (nums .u8 (xs.getD i Z)) ∧ (xs.getD i Z).length = 32 := by
  obtain ⟨c, hcl, hcm, hcc, _⟩ := Kd.R_elem HO Z (i : Int) (by omega) (by omega)
  rw [Int.toNat_natCast] at hcm hcc
  have e := Open.nums_arr (KS.K_of_M hcm)
  subst e
  refine ⟨fun j v hj => ?_, hcm.1⟩
  have h := hcc j v hj
  have e : (⟨g, i * 32, none⟩ : Addr).add j = ⟨g, i * 32 + j, none⟩ := by
    unfold Addr.add
    split
    · next h0 => subst h0; rfl
    · rfl
  rw [e]
  exact h
/-- So many turned about from both ends. -/
def rv (k : Nat) (l : List Sm) : List Sm := (List.range l.length).map fun m => if m < k ∨ l.length ≤ m + k then l.getD (l.length - 1 - m) Z else l.getD m Z
theorem rv_len (k : Nat) (l : List Sm) : (rv k l).length = l.length := by simp [rv]
theorem rv_get (k : Nat) (l : List Sm) (m : Nat) (h : m < l.length) : (rv k l).getD m Z = if m < k ∨ l.length ≤ m + k then l.getD (l.length - 1 - m) Z else l.getD m Z := by
  simp [rv, List.getD_eq_getElem?_getD, List.getElem?_map, List.getElem?_range h]
theorem ext_getD {a b : List Sm} (hl : a.length = b.length) (h : ∀ m, m < a.length → a.getD m Z = b.getD m Z) : a = b := by
  apply List.ext_getElem hl
  intro m h1 h2
  have := h m h1
  rwa [List.getD_eq_getElem?_getD, List.getElem?_eq_getElem h1, List.getD_eq_getElem?_getD, List.getElem?_eq_getElem h2] at this
theorem rv_zero (l : List Sm) : rv 0 l = l := ext_getD (rv_len _ _) (fun m h => by
  rw [rv_len] at h
  rw [rv_get _ _ _ h, if_neg (by omega)])
theorem getD_reverse (l : List Sm) (m : Nat) (h : m < l.length) : l.reverse.getD m Z = l.getD (l.length - 1 - m) Z := by
  rw [List.getD_eq_getElem?_getD, List.getElem?_reverse h, List.getD_eq_getElem?_getD]
theorem rv_end (k : Nat) (l : List Sm) (hk : l.length ≤ 2 * k + 1) : rv k l = l.reverse := ext_getD (by rw [rv_len, List.length_reverse]) (fun m h => by
  rw [rv_len] at h
  rw [rv_get _ _ _ h, getD_reverse _ _ h]
  split
  · rfl
  · rw [show l.length - 1 - m = m by omega])
theorem getD_set (l : List Sm) (i m : Nat) (x : Sm) (h : m < l.length) : (l.set i x).getD m Z = if i = m then x else l.getD m Z := by
  rw [List.getD_eq_getElem?_getD, List.getElem?_set]
  split
  · next e => subst e; rw [if_pos h]; rfl
  · rw [List.getD_eq_getElem?_getD]
theorem rv_step (k : Nat) (l : List Sm) (hk : 2 * k + 1 < l.length) : ((rv k l).set k ((rv k l).getD (l.length - 1 - k) Z)).set (l.length - 1 - k) ((rv k l).getD k Z) = rv (k + 1) l := ext_getD (by simp [rv_len]) (fun m h => by
  rw [List.length_set, List.length_set, rv_len] at h
  rw [getD_set _ _ _ _ (by rw [List.length_set, rv_len]; exact h), getD_set _ _ _ _ (by rw [rv_len]; exact h), rv_get _ _ _ h, rv_get (k + 1) _ _ h, rv_get k l k (by omega), rv_get k l (l.length - 1 - k) (by omega)]
  rw [if_neg (show ¬ (k < k ∨ l.length ≤ k + k) by omega), if_neg (show ¬ (l.length - 1 - k < k ∨ l.length ≤ l.length - 1 - k + k) by omega)]
  by_cases h1 : l.length - 1 - k = m
  · subst h1
    rw [if_pos rfl, if_pos (by omega)]
    congr 1
    omega
  · rw [if_neg h1]
    by_cases h2 : k = m
    · subst h2
      rw [if_pos rfl, if_pos (by omega)]
    · rw [if_neg h2]
      by_cases h3 : m < k ∨ l.length ≤ m + k
      · rw [if_pos h3, if_pos (by omega)]
      · rw [if_neg h3, if_neg (by omega)])
end Go.Proofs.Ytbebkogkeepfoaa.Tree
/- slices.Reverse at sums walked. -/
namespace Go.Proofs.Ytbebkogkeepfoaa.Tree
set_option linter.unusedVariables false
set_option linter.unusedSimpArgs false
open Go.RowKit Go.Proofs.Ytbebkogkeepfoaa.Base Go.Proofs.Ytbebkogkeepfoaa.TlvPlain Go.Proofs.Ytbebkogkeepfoaa.ShaPlain Go.Proofs.Ytbebkogkeepfoaa.Sha Go.Proofs.Ytbebkogkeepfoaa.Com Go.Proofs.Ytbebkogkeepfoaa.Aid Go.Proofs.YtbebkogkeepfoaaW.PrintWords Go.Proofs.YtbebkogkeepfoaaW.PrintLast Go.Proofs.YtbebkogkeepfoaaW.PrintMore
structure RvI (w0 : World) (base g n cap : Nat) (l : List Sm) (k : Nat) (W : World) : Prop where
  os : Os W base (.slice (some ⟨g, 0, none⟩) n cap) (rv k l)
  hb : Below base w0 W
set_option maxHeartbeats 4000000 in
set_option maxRecDepth 100000 in
theorem rev_c (w0 w : World) (base : Nat) (v : Value) (l : List Sm) (hm : l.length ≤ 1000000) (ho : Os w base v l) (hB : Below base w0 w) :
    Calls Try.prog 65 #[v] w fun e w' => e = .returned (.tuple #[]) ∧ Os w' base v l.reverse ∧ Below base w0 w' := by
  by_cases h0 : l.length = 0
  · have hn : l = [] := List.length_eq_zero_iff.1 h0
    subst hn
    obtain ⟨A, c, rfl⟩ := Kd.R_slice ho
    have HO := Aside0.mk ho
    have HB := Aside0.mk hB
    clear ho hB hm h0
    go_enter Try.func65, Try.ntmps65
    go_wp2_with (fail)
    go_loopw [2, 3] (fun i j wx => i = .int .i64 0 ∧ j = .int .i64 (-1) ∧ wx = w) (fun _ _ _ => 0)
    case atStart => exact ⟨rfl, rfl, rfl⟩
    case round =>
      obtain ⟨rfl, rfl, rfl⟩ := hrel
      go_wp2_with (fail)
      go_end0
      exact ⟨rfl, HO.out, HB.out⟩
  · obtain ⟨g, cap, rfl, hg, hgs, _⟩ := Kd.R_form ho (by omega)
    obtain ⟨n, hn⟩ : ∃ n, l.length = n := ⟨_, rfl⟩
    have HN := Aside0.mk hn
    have H0 := Aside0.mk (show RvI w0 base g n cap l 0 w from ⟨by rw [rv_zero, ← hn]; exact ho, hB⟩)
    have hw1 : IntKind.i64.wrap ((n : Int) - 1) = (n : Int) - 1 := by rw [i64_w]; exact w64 (by omega) (by omega)
    rw [hn]
    have HM := Aside0.mk (show n ≤ 1000000 from hn ▸ hm)
    have HN0 := Aside0.mk (show ¬ n = 0 from hn ▸ h0)
    clear ho hB hm h0 hn hg hgs
    go_enter Try.func65, Try.ntmps65
    go_wp2_with (fail)
    go_loopw [2, 3] (fun i j wx => ∃ k : Nat, 2 * k ≤ n + 1 ∧ i = .int .i64 k ∧ j = .int .i64 ((n : Int) - 1 - (k : Int)) ∧ RvI w0 base g n cap l k wx) (fun i _ _ => n - (intOf i).toNat)
    case atStart => exact ⟨0, by omega, rfl, by simp, H0.out⟩
    case round =>
      clear H0
      obtain ⟨k, hk, rfl, rfl, hinv⟩ := hrel
      have HI := Aside0.mk hinv
      clear hinv
      obtain ⟨wy, hwy⟩ : ∃ wy, wy = wr := ⟨_, rfl⟩
      subst hwy
      by_cases hlt : 2 * k + 1 < n
      · have hx := os_at HI.out.os k (by omega)
        have hy := os_at HI.out.os (n - 1 - k) (by omega)
        have HST := Aside0.mk (rv_step k l (by rw [HN.out]; exact hlt))
        rw [HN.out] at HST
        obtain ⟨x, hxx⟩ : ∃ x, (rv k l).getD k Z = x := ⟨_, rfl⟩
        obtain ⟨y, hyy⟩ : ∃ y, (rv k l).getD (n - 1 - k) Z = y := ⟨_, rfl⟩
        rw [hxx] at hx HST
        rw [hyy] at hy HST
        obtain ⟨j, hj⟩ : ∃ j, n - 1 - k = j := ⟨_, rfl⟩
        rw [hj] at hy HST
        have HJ := Aside0.mk hj
        rw [show (n : Int) - 1 - (k : Int) = (j : Int) by omega]
        obtain ⟨X, hX⟩ := sumF x hx.2
        obtain ⟨Y, hY⟩ := sumF y hy.2
        have HX := Aside0.mk hx.1
        have HY := Aside0.mk hy.1
        have HXI := Aside0.mk hX.infoL
        have HYI := Aside0.mk hY.infoL
        have HXE := Aside0.mk hX.eq
        have HYE := Aside0.mk hY.eq
        have HXL := Aside0.mk hx.2
        have HYL := Aside0.mk hy.2
        have q0 : (0 : Int) ≤ (k : Int) := by omega
        have q1 : (k : Int) < (n : Int) := by omega
        have q2 : (0 : Int) ≤ (j : Int) := by omega
        have q3 : (j : Int) < (n : Int) := by omega
        have q4 : decide ((k : Int) < (j : Int)) = true := decide_eq_true (by omega)
        have q5 : decide (k < j) = true := decide_eq_true (by omega)
        have HK := Aside0.mk hlt
        clear hx hy hxx hyy hX hY hj hlt hk
        go_wp2_with (fail)
        refine wp_region_held_drew (S := fun _ => True) (by kernel_rfl) trivial (fun hHeld => ?_)
        (refine wpAnyH_take (i := 0) (v := ?_) rfl (by kernel_rfl) (by kernel_rfl) (by kernel_rfl) (fun _ _ _ h => h) (Or.inl ⟨by rfl, ?_⟩) (by assumption) ?_; (case' refine_2 => (intro w hSw; go_simp; try with_reducible rfl)); (try simp only [Act.put, List.getElem_toArray, List.getElem_cons_zero, List.getElem_cons_succ, List.setIfInBounds_toArray, List.set_cons_zero, List.set_cons_succ]))
        (refine wpAnyH_take (i := 1) (v := ?_) rfl (by kernel_rfl) (by kernel_rfl) (by kernel_rfl) (fun _ _ _ h => h) (Or.inl ⟨by rfl, ?_⟩) (by assumption) ?_; (case' refine_2 => (intro w hSw; go_simp; try with_reducible rfl)); (try simp only [Act.put, List.getElem_toArray, List.getElem_cons_zero, List.getElem_cons_succ, List.setIfInBounds_toArray, List.set_cons_zero, List.set_cons_succ]))
        (refine wpAnyH_take (i := 2) (v := ?_) rfl (by kernel_rfl) (by kernel_rfl) (by kernel_rfl) (fun _ _ _ h => h) (Or.inl ⟨by rfl, ?_⟩) (by assumption) ?_; (case' refine_2 => (intro w hSw; go_simp; try with_reducible rfl)); (try simp only [Act.put, List.getElem_toArray, List.getElem_cons_zero, List.getElem_cons_succ, List.setIfInBounds_toArray, List.set_cons_zero, List.set_cons_succ]))
        (refine wpAnyH_take (i := 3) (v := ?_) rfl (by kernel_rfl) (by kernel_rfl) (by kernel_rfl) (fun _ _ _ h => h) (Or.inl ⟨by rfl, ?_⟩) (by assumption) ?_; (case' refine_2 => (intro w hSw; go_simp; try with_reducible rfl)); (try simp only [Act.put, List.getElem_toArray, List.getElem_cons_zero, List.getElem_cons_succ, List.setIfInBounds_toArray, List.set_cons_zero, List.set_cons_succ]))
        (refine wpAnyH_take (i := 4) (v := ?_) rfl (by kernel_rfl) (by kernel_rfl) (by kernel_rfl) (fun _ _ _ h => h) (Or.inl ⟨by rfl, ?_⟩) (by assumption) ?_; (case' refine_2 => (intro w hSw; go_simp; try with_reducible rfl)); (try simp only [Act.put, List.getElem_toArray, List.getElem_cons_zero, List.getElem_cons_succ, List.setIfInBounds_toArray, List.set_cons_zero, List.set_cons_succ]))
        (refine wpAnyH_take (i := 5) (v := ?_) rfl (by kernel_rfl) (by kernel_rfl) (by kernel_rfl) (fun _ _ _ h => h) (Or.inl ⟨by rfl, ?_⟩) (by assumption) ?_; (case' refine_2 => (intro w hSw; go_simp; try with_reducible rfl)); (try simp only [Act.put, List.getElem_toArray, List.getElem_cons_zero, List.getElem_cons_succ, List.setIfInBounds_toArray, List.set_cons_zero, List.set_cons_succ]))
        (refine wpAnyH_take (i := 6) (v := ?_) rfl (by kernel_rfl) (by kernel_rfl) (by kernel_rfl) (fun _ _ _ h => h) (Or.inl ⟨by rfl, ?_⟩) (by assumption) ?_; (case' refine_2 => (intro w hSw; go_simp; try with_reducible rfl)); (try simp only [Act.put, List.getElem_toArray, List.getElem_cons_zero, List.getElem_cons_succ, List.setIfInBounds_toArray, List.set_cons_zero, List.set_cons_succ]))
        (refine wpAnyH_take (i := 8) (v := ?_) rfl (by kernel_rfl) (by kernel_rfl) (by kernel_rfl) (fun _ _ _ h => h) (Or.inl ⟨by rfl, ?_⟩) (by assumption) ?_; (case' refine_2 => (intro w hSw; go_simp; try with_reducible rfl)); (try simp only [Act.put, List.getElem_toArray, List.getElem_cons_zero, List.getElem_cons_succ, List.setIfInBounds_toArray, List.set_cons_zero, List.set_cons_succ]))
        (refine wpAnyH_take (i := 9) (v := ?_) rfl (by kernel_rfl) (by kernel_rfl) (by kernel_rfl) (fun _ _ _ h => h) (Or.inl ⟨by rfl, ?_⟩) (by assumption) ?_; (case' refine_2 => (intro w hSw; go_simp; try with_reducible rfl)); (try simp only [Act.put, List.getElem_toArray, List.getElem_cons_zero, List.getElem_cons_succ, List.setIfInBounds_toArray, List.set_cons_zero, List.set_cons_succ]))
        (refine wpAnyH_take (i := 10) (v := ?_) rfl (by kernel_rfl) (by kernel_rfl) (by kernel_rfl) (fun _ _ _ h => h) (Or.inl ⟨by rfl, ?_⟩) (by assumption) ?_; (case' refine_2 => (intro w hSw; go_simp; try with_reducible rfl)); (try simp only [Act.put, List.getElem_toArray, List.getElem_cons_zero, List.getElem_cons_succ, List.setIfInBounds_toArray, List.set_cons_zero, List.set_cons_succ]))
        have HX0 := Aside0.mk (show AtC wy.drew { block := g, off := k * 32 } (nums .u8 x) from HX.out)
        have HY0 := Aside0.mk (show AtC wy.drew { block := g, off := j * 32 } (nums .u8 y) from HY.out)
        have HO := Aside0.mk (show Os wy.drew base (.slice (some ⟨g, 0, none⟩) n cap) (rv k l) from Kd.R_drew HI.out.os)
        have HB := Aside0.mk (show Below base w0 wy.drew from below_drew HI.out.hb)
        refine wpAnyH_ready (rs := [7, 11]) (by kernel_rfl) (by simp) (AllReadyH.cons rfl (fun K hK => ?_) (AllReadyH.cons rfl (fun K hK => ?_) AllReadyH.nil))
        · rw [if_pos (by rfl)]
          refine wp_load_at 24 (.tmp 20) rfl _ rfl (nums .u8 y) _ HY0.out Try.underlying24 rfl HYI.out ?_
          rw [HYE.out]
          (refine Shut.out hK _ _ trivial (fun hHeld => ?_); clear hK K; (try simp only [Act.put, List.getElem_toArray, List.getElem_cons_zero, List.getElem_cons_succ, List.setIfInBounds_toArray, List.set_cons_zero, List.set_cons_succ]))
          refine wpAnyH_ready (rs := [11]) (by kernel_rfl) (by simp) (AllReadyH.cons rfl (fun K hK => ?_) AllReadyH.nil)
          rw [if_pos (by rfl)]
          refine wp_load_at 24 (.tmp 24) rfl _ rfl (nums .u8 x) _ HX0.out Try.underlying24 rfl HXI.out ?_
          rw [HXE.out]
          (refine Shut.out hK _ _ trivial (fun hHeld => ?_); clear hK K; (try simp only [Act.put, List.getElem_toArray, List.getElem_cons_zero, List.getElem_cons_succ, List.setIfInBounds_toArray, List.set_cons_zero, List.set_cons_succ]))
          (refine wpAnyH_take (i := 12) (v := ?_) rfl (by kernel_rfl) (by kernel_rfl) (by kernel_rfl) (fun _ _ _ h => h) (Or.inl ⟨by rfl, ?_⟩) (by assumption) ?_; (case' refine_2 => (intro w hSw; go_simp; try with_reducible rfl)); (try simp only [Act.put, List.getElem_toArray, List.getElem_cons_zero, List.getElem_cons_succ, List.setIfInBounds_toArray, List.set_cons_zero, List.set_cons_succ]))
          refine wpAnyH_ready (rs := [13]) (by kernel_rfl) (by simp) (AllReadyH.cons rfl (fun K hK => ?_) AllReadyH.nil)
          rw [if_pos (by rfl)]
          refine wp_sum_store base rfl (.tmp 26) (.tmp 21) rfl k (rv k l) y rfl rfl (by rw [HYE.out]; rfl) HYL.out info_32 HO.out (by have := HK.out; omega) HB.out ?_
          intro w3 ho hb hg
          have HO3 := Aside0.mk ho
          have HB3 := Aside0.mk hb
          clear ho hb hg HO HB
          (refine Shut.out hK _ _ trivial (fun hHeld => ?_); clear hK K; (try simp only [Act.put, List.getElem_toArray, List.getElem_cons_zero, List.getElem_cons_succ, List.setIfInBounds_toArray, List.set_cons_zero, List.set_cons_succ]))
          (refine wpAnyH_take (i := 14) (v := ?_) rfl (by kernel_rfl) (by kernel_rfl) (by kernel_rfl) (fun _ _ _ h => h) (Or.inl ⟨by rfl, ?_⟩) (by assumption) ?_; (case' refine_2 => (intro w hSw; go_simp; try with_reducible rfl)); (try simp only [Act.put, List.getElem_toArray, List.getElem_cons_zero, List.getElem_cons_succ, List.setIfInBounds_toArray, List.set_cons_zero, List.set_cons_succ]))
          refine wpAnyH_ready (rs := [15]) (by kernel_rfl) (by simp) (AllReadyH.cons rfl (fun K hK => ?_) AllReadyH.nil)
          rw [if_pos (by rfl)]
          refine wp_sum_store base rfl (.tmp 27) (.tmp 25) rfl j ((rv k l).set k y) x rfl rfl (by rw [HXE.out]; rfl) HXL.out info_32 HO3.out (by have := HK.out; have := HJ.out; omega) HB3.out ?_
          intro w4 ho hb hg
          have HF := Aside0.mk (show RvI w0 base g n cap l (k + 1) w4 from ⟨by rw [← HST.out]; exact ho, hb⟩)
          clear ho hb hg HO3 HB3
          (refine Shut.out hK _ _ trivial (fun hHeld => ?_); clear hK K; (try simp only [Act.put, List.getElem_toArray, List.getElem_cons_zero, List.getElem_cons_succ, List.setIfInBounds_toArray, List.set_cons_zero, List.set_cons_succ]))
          refine wpAnyH_done (by kernel_rfl) ?_ _
          have q6 : (k : Int) ≤ 1000000 := by have := HM.out; omega
          have q7 : (j : Int) ≤ 1000000 := by have := HM.out; omega
          go_wp2_with (fail)
          go_roundw
          case rel => exact ⟨k + 1, by have := HK.out; omega, by go_num, by have := HJ.out; have := HK.out; simp; omega, HF.out⟩
          case measure => simp [intOf]; omega
        · rw [if_pos (by rfl)]
          refine wp_load_at 24 (.tmp 24) rfl _ rfl (nums .u8 x) _ HX0.out Try.underlying24 rfl HXI.out ?_
          rw [HXE.out]
          (refine Shut.out hK _ _ trivial (fun hHeld => ?_); clear hK K; (try simp only [Act.put, List.getElem_toArray, List.getElem_cons_zero, List.getElem_cons_succ, List.setIfInBounds_toArray, List.set_cons_zero, List.set_cons_succ]))
          refine wpAnyH_ready (rs := [7]) (by kernel_rfl) (by simp) (AllReadyH.cons rfl (fun K hK => ?_) AllReadyH.nil)
          rw [if_pos (by rfl)]
          refine wp_load_at 24 (.tmp 20) rfl _ rfl (nums .u8 y) _ HY0.out Try.underlying24 rfl HYI.out ?_
          rw [HYE.out]
          (refine Shut.out hK _ _ trivial (fun hHeld => ?_); clear hK K; (try simp only [Act.put, List.getElem_toArray, List.getElem_cons_zero, List.getElem_cons_succ, List.setIfInBounds_toArray, List.set_cons_zero, List.set_cons_succ]))
          (refine wpAnyH_take (i := 12) (v := ?_) rfl (by kernel_rfl) (by kernel_rfl) (by kernel_rfl) (fun _ _ _ h => h) (Or.inl ⟨by rfl, ?_⟩) (by assumption) ?_; (case' refine_2 => (intro w hSw; go_simp; try with_reducible rfl)); (try simp only [Act.put, List.getElem_toArray, List.getElem_cons_zero, List.getElem_cons_succ, List.setIfInBounds_toArray, List.set_cons_zero, List.set_cons_succ]))
          refine wpAnyH_ready (rs := [13]) (by kernel_rfl) (by simp) (AllReadyH.cons rfl (fun K hK => ?_) AllReadyH.nil)
          rw [if_pos (by rfl)]
          refine wp_sum_store base rfl (.tmp 26) (.tmp 21) rfl k (rv k l) y rfl rfl (by rw [HYE.out]; rfl) HYL.out info_32 HO.out (by have := HK.out; omega) HB.out ?_
          intro w3 ho hb hg
          have HO3 := Aside0.mk ho
          have HB3 := Aside0.mk hb
          clear ho hb hg HO HB
          (refine Shut.out hK _ _ trivial (fun hHeld => ?_); clear hK K; (try simp only [Act.put, List.getElem_toArray, List.getElem_cons_zero, List.getElem_cons_succ, List.setIfInBounds_toArray, List.set_cons_zero, List.set_cons_succ]))
          (refine wpAnyH_take (i := 14) (v := ?_) rfl (by kernel_rfl) (by kernel_rfl) (by kernel_rfl) (fun _ _ _ h => h) (Or.inl ⟨by rfl, ?_⟩) (by assumption) ?_; (case' refine_2 => (intro w hSw; go_simp; try with_reducible rfl)); (try simp only [Act.put, List.getElem_toArray, List.getElem_cons_zero, List.getElem_cons_succ, List.setIfInBounds_toArray, List.set_cons_zero, List.set_cons_succ]))
          refine wpAnyH_ready (rs := [15]) (by kernel_rfl) (by simp) (AllReadyH.cons rfl (fun K hK => ?_) AllReadyH.nil)
          rw [if_pos (by rfl)]
          refine wp_sum_store base rfl (.tmp 27) (.tmp 25) rfl j ((rv k l).set k y) x rfl rfl (by rw [HXE.out]; rfl) HXL.out info_32 HO3.out (by have := HK.out; have := HJ.out; omega) HB3.out ?_
          intro w4 ho hb hg
          have HF := Aside0.mk (show RvI w0 base g n cap l (k + 1) w4 from ⟨by rw [← HST.out]; exact ho, hb⟩)
          clear ho hb hg HO3 HB3
          (refine Shut.out hK _ _ trivial (fun hHeld => ?_); clear hK K; (try simp only [Act.put, List.getElem_toArray, List.getElem_cons_zero, List.getElem_cons_succ, List.setIfInBounds_toArray, List.set_cons_zero, List.set_cons_succ]))
          refine wpAnyH_done (by kernel_rfl) ?_ _
          have q6 : (k : Int) ≤ 1000000 := by have := HM.out; omega
          have q7 : (j : Int) ≤ 1000000 := by have := HM.out; omega
          go_wp2_with (fail)
          go_roundw
          case rel => exact ⟨k + 1, by have := HK.out; omega, by go_num, by have := HJ.out; have := HK.out; simp; omega, HF.out⟩
          case measure => simp [intOf]; omega
      · have hkm : n ≤ 2 * k + 1 := by omega
        have q4 : decide ((k : Int) < (n : Int) - 1 - (k : Int)) = false := decide_eq_false (by omega)
        have HF := Aside0.mk (show Os wy base (.slice (some ⟨g, 0, none⟩) n cap) l.reverse from by
          rw [← rv_end k l (by rw [HN.out]; exact hkm)]
          exact HI.out.os)
        clear hkm hlt hk
        go_wp2_with (fail)
        go_end0
        exact ⟨rfl, HF.out, HI.out.hb⟩
end Go.Proofs.Ytbebkogkeepfoaa.Tree
/- tree.Path walked. -/
namespace Go.Proofs.Ytbebkogkeepfoaa.Tree
set_option linter.unusedVariables false
set_option linter.unusedSimpArgs false
open Go.RowKit Go.Proofs.Ytbebkogkeepfoaa.Base Go.Proofs.Ytbebkogkeepfoaa.TlvPlain Go.Proofs.Ytbebkogkeepfoaa.ShaPlain Go.Proofs.Ytbebkogkeepfoaa.Sha Go.Proofs.Ytbebkogkeepfoaa.Com Go.Proofs.Ytbebkogkeepfoaa.Aid Go.Proofs.YtbebkogkeepfoaaW.PrintWords Go.Proofs.YtbebkogkeepfoaaW.PrintLast Go.Proofs.YtbebkogkeepfoaaW.PrintMore
theorem info_sums : (Try.prog.info? 24).map (fun i => (i.zero, i.size, i.bytes)) = some (some (.agg Z32), KS.sz, 32) := by kernel_rfl
def lenV : Value → Nat
  | .slice _ n _ => n
  | _ => 0
/-- A row of one's own that a call hands back. -/
abbrev RetO (w : World) (l : List Sm) (b : Bool) : Ending → World → Prop := fun e w' => ∃ v, e = .returned (.tuple #[v, .bool b]) ∧ Os w' w.heap.size v l ∧ Below w.heap.size w w'
/-- The cells of a sum, as a list. -/
structure SumC (cs : List Value) (d : Sm) : Prop where
  eq : nums .u8 d = cs
  len : d.length = 32
theorem sumC (d : Sm) (h : d.length = 32) : ∃ cs, SumC cs d := ⟨_, rfl, h⟩
theorem SumC.v {cs : List Value} {d : Sm} (h : SumC cs d) : sumV d = .agg cs.toArray := by rw [← h.eq]
theorem SumC.m {cs : List Value} {d : Sm} (h : SumC cs d) (W : World) (base : Nat) : KS.M W base (fun _ => False) d cs := by
  rw [← h.eq]
  exact Kd.arr_of_cells h.len
/-- Sums that are written out, as a new row. -/
theorem run_sums (W : World) (vs : List (List Value)) (hv : ∀ c ∈ vs, c.length = 32) (h0 : 0 < vs.length) (hm : vs.length ≤ 1000) : (Instr.buildSlice 52 vs.length ((vs.zipIdx 0).map fun x => (x.2, Value.agg x.1.toArray)).toArray).run Try.prog W = .ok (.slice (some ⟨W.heap.size, 0, none⟩) vs.length vs.length) (W.alloc (.cells vs.flatten.toArray 24)) := by
  obtain ⟨ie, hie, hs⟩ := info_sum
  have hz : ie.zero = some (.agg Z32) := by
    have h := info_sums
    rw [hie] at h
    simp only [Option.map_some, Option.some.injEq, Prod.mk.injEq] at h
    exact h.1
  have hf := Great.fill_whole (s := 32) (by decide) (vs.map fun c => Value.agg c.toArray) ((Array.range (vs.length * 32)).map ((Value.agg Z32).cells[· % (Value.agg Z32).cells.size]!)) (fun v hv' => by
    obtain ⟨c, hc, rfl⟩ := List.mem_map.1 hv'
    simp [Value.cells, hv c hc]) (by simp)
  refine run_buildSlice W 52 24 vs.length _ _ ie (.agg Z32) Try.underlying52 hie hz (by rw [hs]; omega) (by rw [hs]; omega) ?_
  rw [hs]
  refine Eq.trans ?_ (hf.trans ?_)
  · congr 1
    rw [List.zipIdx_map, List.map_map]
    simp
  · congr 2
    rw [List.flatMap_map]
    exact List.flatMap_id
theorem run_sum1 (W : World) (c : List Value) (hc : c.length = 32) : (Instr.buildSlice 52 1 #[(0, .agg c.toArray)]).run Try.prog W = .ok (.slice (some ⟨W.heap.size, 0, none⟩) 1 1) (W.alloc (.cells c.toArray 24)) := by
  have h := run_sums W [c] (fun x hx => by rw [List.mem_singleton.1 hx]; exact hc) (by simp) (by simp)
  rw [show [c].flatten = c from by simp] at h
  exact h
theorem SumC.lenC {cs : List Value} {d : Sm} (h : SumC cs d) : cs.length = 32 := by rw [← h.eq]; simp [nums, h.len]
theorem wpList_sum1 {ops : Array Oper} {rest : List Oper} {o : Oper} {a : Act} {w : World} {Q : Exit → Act → World → Prop} (hg : o.guard = none) (x : Operand) (ho : o.op = .buildSlice 52 1 #[(0, x)]) (cs : List Value) (hx : a.eval x = .agg cs.toArray) (hc : cs.length = 32)
    (h : wpList Try.prog ops Q rest (a.put o.dst (.slice (some ⟨w.heap.size, 0, none⟩) 1 1)) (w.alloc (.cells cs.toArray 24))) : wpList Try.prog ops Q (o :: rest) a w :=
  wpList_plain hg fun _ hK => by
    have hp : (#[((0 : Nat), x)].map fun (i, y) => (i, a.eval y)) = #[(0, .agg cs.toArray)] := by simp [hx]
    unfold Oper.wp execOp
    simp only [ho, hp, Sem.run_bind, run_sum1 w cs hc, Result.andThen_ok]
    exact hK _ _ h
structure PathI (w : World) (l0 : List Sm) (i0 : Nat) (l : List Sm) (n i : Nat) (A : Option Addr) (c : Nat) (acc : List Sm) (v : Value) (W : World) : Prop where
  len : l.length = n
  r : Rs w A l
  hc : n ≤ c
  u : Lu l
  hi : i < n
  hm : n ≤ 1000000
  o : Os W w.heap.size v acc
  e : acc ++ (pathT l i).reverse = (pathT l0 i0).reverse
  b : Below w.heap.size w W
  s : acc.length + n ≤ 1000001
theorem PathI.left {w W W' : World} {l0 l : List Sm} {i0 n i c : Nat} {A : Option Addr} {acc : List Sm} {v v' : Value} (h : PathI w l0 i0 l n i A c acc v W) (h2 : 2 ≤ n) (hk : i < hlf n)
    (ho : Os W' w.heap.size v' (acc ++ [rootT (l.drop (hlf n))])) (hb : Below w.heap.size w W') : PathI w l0 i0 (l.take (hlf n)) (hlf n) i A c (acc ++ [rootT (l.drop (hlf n))]) v' W' := by
  have hl := h.len
  have hc := h.hc
  have hm := h.hm
  have hs := h.s
  have hlt := hlf_lt h2
  refine ⟨by rw [List.length_take]; omega, Rs.take h.r (by omega), by omega, h.u.take _, hk, by omega, ho, ?_, hb, by rw [List.length_append, List.length_singleton]; omega⟩
  have he := h.e
  rw [pathT, dif_neg (by omega), hl, if_pos hk, List.reverse_append, List.reverse_singleton, ← List.append_assoc] at he
  exact he
theorem PathI.right {w W W' : World} {l0 l : List Sm} {i0 n i c : Nat} {A : Option Addr} {acc : List Sm} {v v' : Value} (h : PathI w l0 i0 l n i A c acc v W) (h2 : 2 ≤ n) (hk : ¬ i < hlf n)
    (ho : Os W' w.heap.size v' (acc ++ [rootT (l.take (hlf n))])) (hb : Below w.heap.size w W') : PathI w l0 i0 (l.drop (hlf n)) (n - hlf n) (i - hlf n) (restA A c (hlf n)) (c - hlf n) (acc ++ [rootT (l.take (hlf n))]) v' W' := by
  have hl := h.len
  have hc := h.hc
  have hm := h.hm
  have hs := h.s
  have hi := h.hi
  have hlt := hlf_lt h2
  have hp := hlf_pos n
  refine ⟨by rw [List.length_drop]; omega, Rs.drop h.r (by omega) (by omega), by omega, h.u.drop _, by omega, by omega, ho, ?_, hb, by rw [List.length_append, List.length_singleton]; omega⟩
  have he := h.e
  rw [pathT, dif_neg (by omega), hl, if_neg hk, List.reverse_append, List.reverse_singleton, ← List.append_assoc] at he
  exact he
set_option maxHeartbeats 4000000 in
set_option maxRecDepth 100000 in
theorem path_c (l0 : List Sm) (n0 : Nat) (hl : l0.length = n0) (hm : n0 ≤ 1000000) (hu : Lu l0) (i0 : Nat) (hi : i0 < n0) (A0 : Option Addr) (c0 : Nat) (hc : n0 ≤ c0) (w : World) (hr : Rs w A0 l0) :
    Calls Try.prog 39 #[.slice A0 n0 c0, .int .i64 (i0 : Int)] w (RetO w (pathT l0 i0) true) := by
  have H0 := Aside0.mk (show PathI w l0 i0 l0 n0 i0 A0 c0 [] (.slice none 0 0) w from ⟨hl, hr, hc, hu, hi, hm, Kd.R_nil _ _ _ _ _, rfl, Below.refl _ _, by simp; omega⟩)
  have d1 : decide ((i0 : Int) < 0) = false := decide_eq_false (by omega)
  have d2 : decide ((n0 : Int) ≤ (i0 : Int)) = false := decide_eq_false (by omega)
  have d3 : decide (n0 ≤ i0) = false := decide_eq_false (by omega)
  unfold RetO
  clear hl hm hu hi hc hr
  go_enter Try.func39, Try.ntmps39
  go_wp2_with (fail)
  clear d1 d2 d3
  go_loopw [0, 1, 6, 7] (fun x y v _ wx => ∃ (l : List Sm) (n i : Nat) (A : Option Addr) (c : Nat) (acc : List Sm), x = .slice A n c ∧ y = .int .i64 i ∧ PathI w l0 i0 l n i A c acc v wx) (fun x _ _ _ _ => lenV x)
  case atStart => exact ⟨l0, n0, i0, A0, c0, [], rfl, rfl, H0.out⟩
  case round =>
    clear H0
    obtain ⟨l, n, i, A, c, acc, rfl, rfl, hinv⟩ := hrel
    have HI := Aside0.mk hinv
    clear hinv
    obtain ⟨W, hwy⟩ : ∃ wy, wy = wr := ⟨_, rfl⟩
    subst hwy
    by_cases h2 : 2 ≤ n
    · have HKB := Aside0.mk (fun W => below_c n h2 (by have := HI.out.hm; omega) W)
      obtain ⟨k, hk⟩ : ∃ k, hlf n = k := ⟨_, rfl⟩
      have HK := Aside0.mk hk
      rw [hk] at HKB
      have hkl := hlf_lt h2
      have hkp := hlf_pos n
      rw [hk] at hkl hkp
      have HKL := Aside0.mk hkl
      have HKP := Aside0.mk hkp
      have H2 := Aside0.mk h2
      have HC1 := Aside0.mk (cut_a A n c k (by omega) HI.out.hc)
      have HC2 := Aside0.mk (cut_b A n c k (by omega))
      have d1 : decide (1 < (n : Int)) = true := decide_eq_true (by omega)
      by_cases hik : i < k
      · obtain ⟨D, hD⟩ := sumC (rootT (l.drop k)) (rootT_len _)
        have HR := Aside0.mk (root_c (n - k) (l.drop k) (by rw [List.length_drop, HI.out.len]) (by have := HI.out.hm; omega) (restA A c k) (c - k) W (Rs.drop (Kd.C_below HI.out.r HI.out.b) (by rw [HI.out.len]; omega) (by rw [HI.out.len]; exact HI.out.hc)) (by have := HI.out.hc; omega) (HI.out.u.drop _))
        unfold Ret at HR
        rw [hD.v] at HR
        have HD := Aside0.mk hD
        have HIK := Aside0.mk hik
        have q0 : decide ((i : Int) < (k : Int)) = true := decide_eq_true (by omega)
        have q1 : decide (i < k) = true := decide_eq_true hik
        clear hD hik hkl hkp h2 hk
        have hq1 := HC1.out
        have hq2 := HC2.out
        go_wp2_with (go_at_call 57; refine (HKB.out _).mono ?_; rintro e w' ⟨rfl, rfl⟩)
        refine HR.out.mono ?_
        rintro e w3 ⟨rfl, hb⟩
        have HO3 := Aside0.mk (Kd.R_below HI.out.o hb)
        have HB3 := Aside0.mk (below_step HI.out.b hb)
        clear hb
        go_wp2_with (first
          | ((with_reducible refine gate_dst (N := 30) rfl ?_); refine wpList_sum1 rfl (.tmp 29) rfl D rfl HD.out.lenC ?_)
          | ((with_reducible refine gate_builtin (b := .append) (xs := #[.tmp 25, .tmp 30]) rfl ?_); at_builtin; refine Kd.R_append KS (w0 := w) w.heap.size rfl (.tmp 25) (.tmp 30) 52 24 (.agg Z32) 32 rfl Try.underlying52 info_sums rfl (by decide) (by decide) _ acc _ D (fun _ => True) (fun _ => False) rfl rfl (HD.out.m _ _) (fun _ h => h.elim) (fun _ _ => trivial) HO3.out HB3.out HB3.out.size (by have := HI.out.s; omega) ?_; intro v1 w5 ho hb hg hat; have HO5 := Aside0.mk ho; have HB5 := Aside0.mk hb; clear ho hb hg hat))
        have HF := Aside0.mk (PathI.left HI.out H2.out (by rw [HK.out]; exact HIK.out) (by rw [HK.out]; exact HO5.out) HB5.out)
        rw [HK.out] at HF
        go_roundw
        case rel => exact ⟨_, _, _, _, _, _, rfl, rfl, HF.out⟩
        case measure => exact HKL.out
      · obtain ⟨D, hD⟩ := sumC (rootT (l.take k)) (rootT_len _)
        have HR := Aside0.mk (root_c k (l.take k) (by rw [List.length_take, HI.out.len]; omega) (by have := HI.out.hm; omega) A c W (Rs.take (Kd.C_below HI.out.r HI.out.b) (by rw [HI.out.len]; omega)) (by have := HI.out.hc; omega) (HI.out.u.take _))
        unfold Ret at HR
        rw [hD.v] at HR
        have HD := Aside0.mk hD
        have HIK := Aside0.mk hik
        have q0 : decide ((i : Int) < (k : Int)) = false := decide_eq_false (by omega)
        have q1 : decide (i < k) = false := decide_eq_false hik
        have qb1 : (0 : Int) ≤ (k : Int) := by omega
        have qb2 : (k : Int) ≤ (i : Int) := by omega
        have qb3 : (i : Int) ≤ 1000000 := by have := HI.out.hi; have := HI.out.hm; omega
        clear hD hik hkl hkp h2 hk
        have hq1 := HC1.out
        have hq2 := HC2.out
        go_wp2_with (go_at_call 57; refine (HKB.out _).mono ?_; rintro e w' ⟨rfl, rfl⟩)
        refine HR.out.mono ?_
        rintro e w3 ⟨rfl, hb⟩
        have HO3 := Aside0.mk (Kd.R_below HI.out.o hb)
        have HB3 := Aside0.mk (below_step HI.out.b hb)
        clear hb
        go_wp2_with (first
          | ((with_reducible refine gate_dst (N := 40) rfl ?_); refine wpList_sum1 rfl (.tmp 39) rfl D rfl HD.out.lenC ?_)
          | ((with_reducible refine gate_builtin (b := .append) (xs := #[.tmp 35, .tmp 40]) rfl ?_); at_builtin; refine Kd.R_append KS (w0 := w) w.heap.size rfl (.tmp 35) (.tmp 40) 52 24 (.agg Z32) 32 rfl Try.underlying52 info_sums rfl (by decide) (by decide) _ acc _ D (fun _ => True) (fun _ => False) rfl rfl (HD.out.m _ _) (fun _ h => h.elim) (fun _ _ => trivial) HO3.out HB3.out HB3.out.size (by have := HI.out.s; omega) ?_; intro v1 w5 ho hb hg hat; have HO5 := Aside0.mk ho; have HB5 := Aside0.mk hb; clear ho hb hg hat))
        have HF := Aside0.mk (PathI.right HI.out H2.out (by rw [HK.out]; exact HIK.out) (by rw [HK.out]; exact HO5.out) HB5.out)
        rw [HK.out] at HF
        go_roundw
        case rel => exact ⟨_, _, _, _, _, _, rfl, congrArg (Value.int IntKind.i64) (by have := HIK.out; omega), HF.out⟩
        case measure => have h1 := HKL.out; have h2 := HKP.out; show n - k < n; omega
    · have h1 : n = 1 := by have := HI.out.hi; omega
      subst h1
      have HE := Aside0.mk (show acc.reverse = pathT l0 i0 from by
        have h := HI.out.e
        rw [pathT, dif_pos (by rw [HI.out.len]; exact Nat.le_refl _), List.reverse_nil, List.append_nil] at h
        rw [h, List.reverse_reverse])
      have HAL := Aside0.mk (show acc.length ≤ 1000000 from by have := HI.out.s; omega)
      go_wp2_with (fail)
      refine (rev_c w W w.heap.size _ acc HAL.out HI.out.o HI.out.b).mono ?_
      rintro e w3 ⟨rfl, ho, hb⟩
      rw [HE.out] at ho
      have HO3 := Aside0.mk ho
      have HB3 := Aside0.mk hb
      clear ho hb
      go_wp2_with (fail)
      go_ret2
      exact ⟨_, rfl, HO3.out, HB3.out⟩
end Go.Proofs.Ytbebkogkeepfoaa.Tree
/- tree.Frontier walked. -/
namespace Go.Proofs.Ytbebkogkeepfoaa.Tree
set_option linter.unusedVariables false
set_option linter.unusedSimpArgs false
open Go.RowKit Go.Proofs.Ytbebkogkeepfoaa.Base Go.Proofs.Ytbebkogkeepfoaa.TlvPlain Go.Proofs.Ytbebkogkeepfoaa.ShaPlain Go.Proofs.Ytbebkogkeepfoaa.Sha Go.Proofs.Ytbebkogkeepfoaa.Com Go.Proofs.Ytbebkogkeepfoaa.Aid Go.Proofs.YtbebkogkeepfoaaW.PrintWords Go.Proofs.YtbebkogkeepfoaaW.PrintLast Go.Proofs.YtbebkogkeepfoaaW.PrintMore
structure FrontI (w : World) (l0 : List Sm) (l : List Sm) (n : Nat) (A : Option Addr) (c : Nat) (acc : List Sm) (v : Value) (W : World) : Prop where
  len : l.length = n
  r : Rs w A l
  hc : n ≤ c
  u : Lu l
  hm : n ≤ 1000000
  o : Os W w.heap.size v acc
  e : acc ++ frontT l = frontT l0
  b : Below w.heap.size w W
  s : acc.length + n ≤ 1000001
theorem log2_le {n : Nat} (h : n ≠ 0) : 2 ^ Nat.log2 n ≤ n := Nat.log2_self_le h
theorem FrontI.next {w W W' : World} {l0 l : List Sm} {n c k : Nat} {A : Option Addr} {acc : List Sm} {v v' : Value} (h : FrontI w l0 l n A c acc v W) (h0 : n ≠ 0) (hk : 2 ^ Nat.log2 n = k)
    (ho : Os W' w.heap.size v' (acc ++ [rootT (l.take k)])) (hb : Below w.heap.size w W') : FrontI w l0 (l.drop k) (n - k) (restA A c k) (c - k) (acc ++ [rootT (l.take k)]) v' W' := by
  have hl := h.len
  have hc := h.hc
  have hm := h.hm
  have hs := h.s
  have hlt := log2_le h0
  have hp : 0 < 2 ^ Nat.log2 n := Nat.pow_pos (by decide)
  rw [hk] at hlt hp
  refine ⟨by rw [List.length_drop]; omega, Rs.drop h.r (by omega) (by omega), by omega, h.u.drop _, by omega, ho, ?_, hb, by rw [List.length_append, List.length_singleton]; omega⟩
  have he := h.e
  rw [frontT, dif_neg (by omega), hl, hk] at he
  rw [List.append_assoc]
  exact he
end Go.Proofs.Ytbebkogkeepfoaa.Tree
/- tree.right walked. -/
namespace Go.Proofs.Ytbebkogkeepfoaa.Tree
set_option linter.unusedVariables false
set_option linter.unusedSimpArgs false
open Go.RowKit Go.Proofs.Ytbebkogkeepfoaa.Base Go.Proofs.YtbebkogkeepfoaaW.PrintWords Go.Proofs.YtbebkogkeepfoaaW.PrintLast Go.Proofs.YtbebkogkeepfoaaW.PrintMore
end Go.Proofs.Ytbebkogkeepfoaa.Tree
