import Derived.Test.YtbebkogkeepfoaaShaKeys
/- The document's words of a block walked. -/
namespace Go.Proofs.Ytbebkogkeepfoaa.Sha
set_option linter.unusedVariables false
open Go.RowKit Go.Proofs.Ytbebkogkeepfoaa.Base Go.Proofs.Ytbebkogkeepfoaa.ShaPlain Go.Proofs.Ytbebkogkeepfoaa.Aid Go.Proofs.YtbebkogkeepfoaaW.PrintWords Go.Proofs.YtbebkogkeepfoaaW.PrintLast Go.Proofs.YtbebkogkeepfoaaW.PrintMore
theorem second_new' (w : World) (Z o : Obj) : ((w.alloc Z).alloc o).heap[w.heap.size + 1]? = some o := by
  have h := blk_new (w.alloc Z) o
  simpa using h
theorem add_pos (ad : Addr) (n : Nat) (h : 0 < n) : ad.add n = ⟨ad.block, ad.off + n, none⟩ := by
  have := add_field ad 0 n h
  rw [Nat.zero_add] at this
  rw [this]
  have e : ad.add 0 = ad := by unfold Addr.add; simp
  rw [e]
def zeros64 : Array Value := (nums .u32 (List.replicate 64 0)).toArray
/-- The words under way: the variable (block p), and the answer's cells. -/
def RInv (w : World) (b : List Int) (k : Nat) (wr : World) : Prop := Words wr (w.heap.size + 1) 89 (fill b k) ∧ wr.heap[w.heap.size]? = some (.cells zeros64 89 (0, 0)) ∧ Below w.heap.size w wr
theorem RInv.next {w : World} {b : List Int} {k : Nat} {wr : World} (h : RInv w b k wr) {v : Int} (hv : v = ShaPlain.next b (fill b k) k) : RInv w b (k + 1) (wr.drew.setCell ⟨w.heap.size + 1, k, none⟩ (.int .u32 v)) := by
  subst hv
  refine ⟨Words.set (w := wr.drew) h.1 k _, ?_, below_set (below_drew1 h.2.2) (by omega)⟩
  exact (Below.heap_setCell wr.drew ⟨w.heap.size + 1, k, none⟩ _ w.heap.size (by show w.heap.size ≠ w.heap.size + 1; omega)).trans h.2.1
theorem at_byte {w : World} {A : Option Addr} {b : List Int} (h : Rb w A b) (i : Nat) (hi : i < b.length) : ∃ ad, A = some ad ∧ w.cell? (ad.add i) = some (.int .u8 (b.getD i 0)) := by
  obtain ⟨ad, hA, hc⟩ := Kd.at_int h i (by omega) (by omega)
  exact ⟨ad, hA, by rw [Int.toNat_natCast] at hc; rw [hc]; simp [rd]⟩
set_option maxHeartbeats 8000000 in
set_option maxRecDepth 100000 in
theorem words_c (A : Option Addr) (c : Nat) (b : List Int) (w : World) (hr : Rb w A b) (hc : 64 ≤ c) (hl : b.length = 64) (hu : ∀ j, j < 64 → 0 ≤ b.getD j 0 ∧ b.getD j 0 ≤ 255) :
    Calls Try.prog 67 #[.slice A 64 c] w fun e w' => e = .returned (wordsV (fill b 64)) ∧ Below w.heap.size w w' := by
  obtain ⟨ad, rfl, _⟩ := at_byte hr 0 (by omega)
  have HR := Aside0.mk hr
  have HL := Aside0.mk hl
  have HU := Aside0.mk hu
  clear hr hl hu
  have H0 := Aside0.mk (show RInv w b 0 ((w.alloc (.cells zeros64 89)).alloc (.cells zeros64 89)) from ⟨second_new' _ _ _, blk_alloc (blk_new _ _) _, below_alloc (below_alloc (Below.refl _ _) _) _⟩)
  go_enter Try.func67, Try.ntmps67
  go_wp2
  go_loopw [4, 5, 6] (fun i _ _ wr => ∃ k : Nat, k ≤ 64 ∧ i = .int .i64 k ∧ RInv w b k wr) (fun i _ _ _ => 64 - (intOf i).toNat)
  case atStart => exact ⟨0, by omega, rfl, H0.out⟩
  case round =>
    clear H0
    obtain ⟨k, hk, rfl, hinv⟩ := hrel
    have HI := Aside0.mk hinv
    by_cases hlt : k < 64
    · by_cases h16 : k < 16
      · have hc : ∀ i, i < 64 → wr.cell? (ad.add i) = some (.int .u8 (b.getD i 0)) := fun i hi => by
          obtain ⟨ad', e, h⟩ := at_byte (Kd.C_below HR.out hinv.2.2) i (by rw [HL.out]; exact hi)
          injection e with e
          subst e
          exact h
        have hf : wr.drew.frozen? ⟨w.heap.size + 1, k, none⟩ = false := hinv.1.free k
        have hd : wr.drew.cell? ⟨w.heap.size + 1, k, none⟩ = some (.int .u32 ((fill b k).getD k 0)) := hinv.1.cell k (by rw [fill_len]; omega)
        obtain ⟨x0, hx0⟩ : ∃ x, b.getD (4 * k) 0 = x := ⟨_, rfl⟩
        obtain ⟨x1, hx1⟩ : ∃ x, b.getD (4 * k + 1) 0 = x := ⟨_, rfl⟩
        obtain ⟨x2, hx2⟩ : ∃ x, b.getD (4 * k + 2) 0 = x := ⟨_, rfl⟩
        obtain ⟨x3, hx3⟩ : ∃ x, b.getD (4 * k + 3) 0 = x := ⟨_, rfl⟩
        obtain ⟨old, hold⟩ : ∃ x, (fill b k).getD k 0 = x := ⟨_, rfl⟩
        have c0 := hc (4 * k) (by omega)
        have c1 := hc (4 * k + 1) (by omega)
        have c2 := hc (4 * k + 2) (by omega)
        have c3 := hc (4 * k + 3) (by omega)
        have HV := Aside0.mk (show bits .or .u32 (bits .or .u32 (bits .or .u32 (IntKind.u32.wrap (IntKind.u32.wrap x0 * 16777216)) (IntKind.u32.wrap (IntKind.u32.wrap x1 * 65536))) (IntKind.u32.wrap (IntKind.u32.wrap x2 * 256))) (IntKind.u32.wrap x3) = ShaPlain.next b (fill b k) k by
          rw [word4_eq (hx0 ▸ HU.out _ (by omega)) (hx1 ▸ HU.out _ (by omega)) (hx2 ▸ HU.out _ (by omega)) (hx3 ▸ HU.out _ (by omega)), ShaPlain.next, if_pos h16, hx0, hx1, hx2, hx3])
        rw [hx0] at c0
        rw [hx1] at c1
        rw [hx2] at c2
        rw [hx3] at c3
        rw [hold] at hd
        rw [add_pos _ _ (by omega)] at c1 c2 c3
        clear hc hx0 hx1 hx2 hx3 hold hinv
        have e0 : IntKind.i64.wrap (4 * (k : Int)) = 4 * (k : Int) := IntWalk.i64_in _ (by omega)
        have t0 : (4 * (k : Int)).toNat = 4 * k := by omega
        have g0 : (0 : Int) ≤ 4 * (k : Int) := by omega
        have f0 : 4 * (k : Int) < 64 := by omega
        have e1 : IntKind.i64.wrap (4 * (k : Int) + 1) = 4 * (k : Int) + 1 := IntWalk.i64_in _ (by omega)
        have t1 : (4 * (k : Int) + 1).toNat = 4 * k + 1 := by omega
        have g1 : (0 : Int) ≤ 4 * (k : Int) + 1 := by omega
        have f1 : 4 * (k : Int) + 1 < 64 := by omega
        have e2 : IntKind.i64.wrap (4 * (k : Int) + 2) = 4 * (k : Int) + 2 := IntWalk.i64_in _ (by omega)
        have t2 : (4 * (k : Int) + 2).toNat = 4 * k + 2 := by omega
        have g2 : (0 : Int) ≤ 4 * (k : Int) + 2 := by omega
        have f2 : 4 * (k : Int) + 2 < 64 := by omega
        have e3 : IntKind.i64.wrap (4 * (k : Int) + 3) = 4 * (k : Int) + 3 := IntWalk.i64_in _ (by omega)
        have t3 : (4 * (k : Int) + 3).toNat = 4 * k + 3 := by omega
        have g3 : (0 : Int) ≤ 4 * (k : Int) + 3 := by omega
        have f3 : 4 * (k : Int) + 3 < 64 := by omega
        have g4 : (0 : Int) ≤ (k : Int) := by omega
        have f4 : (k : Int) < 64 := by omega
        have hk16 : (k : Int) < 16 := by omega
        go_wp2
        go_still_tail 35, (by kernel_rfl)
        change wpList _ _ _ _ _ wr.drew
        obtain ⟨w2, hw2⟩ : ∃ w2, wr.drew = w2 := ⟨_, rfl⟩
        have HW := Aside0.mk hw2
        rw [hw2] at hf hd ⊢
        clear hw2 e0 e1 e2 e3 t0 t1 t2 t3 g0 g1 g2 g3 f0 f1 f2 f3
        go_wp2
        go_roundw
        case rel => exact ⟨k + 1, by omega, by go_num, by rw [← HW.out]; exact HI.out.next HV.out⟩
        case measure => simp [intOf]; omega
      · have hU := fun j => (fill_u32 b k).at j
        have hcw : ∀ j, j < 64 → wr.cell? ⟨w.heap.size + 1, j, none⟩ = some (.int .u32 ((fill b k).getD j 0)) := fun j hj => hinv.1.cell j (by rw [fill_len]; omega)
        have hk16 : 16 ≤ k := by omega
        have hd := hcw k (by omega)
        have c15 := hcw (k - 15) (by omega)
        have c2 := hcw (k - 2) (by omega)
        have c16 := hcw (k - 16) (by omega)
        have c7 := hcw (k - 7) (by omega)
        obtain ⟨x15, hx15⟩ : ∃ x, (fill b k).getD (k - 15) 0 = x := ⟨_, rfl⟩
        obtain ⟨x2, hx2⟩ : ∃ x, (fill b k).getD (k - 2) 0 = x := ⟨_, rfl⟩
        obtain ⟨x16, hx16⟩ : ∃ x, (fill b k).getD (k - 16) 0 = x := ⟨_, rfl⟩
        obtain ⟨x7, hx7⟩ : ∃ x, (fill b k).getD (k - 7) 0 = x := ⟨_, rfl⟩
        obtain ⟨old, hold⟩ : ∃ x, (fill b k).getD k 0 = x := ⟨_, rfl⟩
        have r15 := hU (k - 15)
        have r2 := hU (k - 2)
        rw [hx15] at c15 r15
        rw [hx2] at c2 r2
        rw [hx16] at c16
        rw [hx7] at c7
        rw [hold] at hd
        have HR15 := Aside0.mk r15
        have HR2 := Aside0.mk r2
        have HV := Aside0.mk (show ∀ X, X = (high x2 + x7 + low x15 + x16) % 4294967296 → X = ShaPlain.next b (fill b k) k by
          intro X hX
          rw [ShaPlain.next, if_neg (by omega), hx15, hx2, hx16, hx7, m32, hX]
          congr 1
          omega)
        clear hcw hU hx15 hx2 hx16 hx7 hold hinv r15 r2 h16
        have e2 : IntKind.i64.wrap ((k : Int) - 2) = (k : Int) - 2 := IntWalk.i64_in _ (by omega)
        have t2 : ((k : Int) - 2).toNat = k - 2 := by omega
        have g2 : (0 : Int) ≤ (k : Int) - 2 := by omega
        have f2 : (k : Int) - 2 < 64 := by omega
        have e7 : IntKind.i64.wrap ((k : Int) - 7) = (k : Int) - 7 := IntWalk.i64_in _ (by omega)
        have t7 : ((k : Int) - 7).toNat = k - 7 := by omega
        have g7 : (0 : Int) ≤ (k : Int) - 7 := by omega
        have f7 : (k : Int) - 7 < 64 := by omega
        have e15 : IntKind.i64.wrap ((k : Int) - 15) = (k : Int) - 15 := IntWalk.i64_in _ (by omega)
        have t15 : ((k : Int) - 15).toNat = k - 15 := by omega
        have g15 : (0 : Int) ≤ (k : Int) - 15 := by omega
        have f15 : (k : Int) - 15 < 64 := by omega
        have e16 : IntKind.i64.wrap ((k : Int) - 16) = (k : Int) - 16 := IntWalk.i64_in _ (by omega)
        have t16 : ((k : Int) - 16).toNat = k - 16 := by omega
        have g16 : (0 : Int) ≤ (k : Int) - 16 := by omega
        have f16 : (k : Int) - 16 < 64 := by omega
        have g4 : (0 : Int) ≤ (k : Int) := by omega
        have f4 : (k : Int) < 64 := by omega
        have hdk16 : decide ((k : Int) < 16) = false := decide_eq_false (by omega)
        go_wp2
        clear hdk16
        go_quiet (fail)
        have HI2 := Aside0.mk (show RInv w b k (wr.drewN nq) from ⟨HI.out.1, HI.out.2.1, pw_below_drewN HI.out.2.2 nq⟩)
        have hf' : (wr.drewN nq).drew.frozen? ⟨w.heap.size + 1, k, none⟩ = false := HI.out.1.free k
        have hd' : (wr.drewN nq).drew.cell? ⟨w.heap.size + 1, k, none⟩ = some (.int .u32 old) := hd
        have c16' : (wr.drewN nq).cell? ⟨w.heap.size + 1, k - 16, none⟩ = some (.int .u32 x16) := c16
        have c7' : (wr.drewN nq).cell? ⟨w.heap.size + 1, k - 7, none⟩ = some (.int .u32 x7) := c7
        clear c15 c2 c16 c7 hd HI
        revert HI2 hf' hd' c16' c7'
        generalize wr.drewN nq = wq
        intro HI2 hf hd c16 c7
        have h16 : (16 : Int) ≤ (k : Int) := by omega
        have l16 : (k : Int) < 64 + 16 := by omega
        have h7 : (7 : Int) ≤ (k : Int) := by omega
        have l7 : (k : Int) < 64 + 7 := by omega
        go_wp2_with (fail)
        go_still_tail 29, (by kernel_rfl)
        still_call (turnw_17 x2 _ HR2.out)
        repeat still_step
        still_call (turnw_19 x2 _ HR2.out)
        repeat still_step
        still_call (turnw_7 x15 _ HR15.out)
        repeat still_step
        still_call (turnw_18 x15 _ HR15.out)
        repeat still_step
        try refine wpStill_nil ?_
        change wpList _ _ _ _ _ wq.drew
        obtain ⟨w2, hw2⟩ : ∃ w2, wq.drew = w2 := ⟨_, rfl⟩
        have HW := Aside0.mk hw2
        rw [hw2] at hf hd ⊢
        clear hw2 e2 e7 e15 e16 t2 t7 t15 t16 g2 g7 g15 g16 f2 f7 f15 f16
        go_wp2
        go_roundw
        case rel => exact ⟨k + 1, by omega, by go_num, by rw [← HW.out]; exact HI2.out.next (HV.out _ rfl)⟩
        case measure => simp [intOf]; omega
    · have HK := Aside0.mk (show k = 64 by omega)
      have hge : 64 ≤ k := by omega
      obtain ⟨D, hD⟩ : ∃ D, (nums .u32 (fill b k)).toArray = D := ⟨_, rfl⟩
      have h3 := hinv.1
      unfold Words at h3
      rw [hD] at h3
      have H3 := Aside0.mk h3
      have H2 := Aside0.mk hinv.2.1
      have HB := Aside0.mk hinv.2.2
      have hds : D.size = 64 := by rw [← hD]; simp [nums, fill_len]
      have HZS := Aside0.mk (show zeros64.size = D.size by rw [hds]; simp [zeros64, nums])
      have HIF := Aside0.mk (show (Try.prog.info? 89).map (·.size) = some D.size by rw [hds]; exact info_64)
      have HONE := Aside0.mk (show D.all (·.oneCell') = true by rw [← hD]; exact nums_one _ _)
      have HFIN := Aside0.mk (show D = (nums .u32 (fill b 64)).toArray by rw [← hD, HK.out])
      clear hD hds h3 hinv hlt hk HI
      go_wp2_with (first
        | ((with_reducible refine gate_dst (N := 85) rfl ?_); refine wpList_load_row rfl 89 (.tmp 3) rfl (w.heap.size + 1) rfl 89 D (0, 0) _ H3.out Try.underlying89 rfl HIF.out ?_)
        | ((with_reducible refine gate_store (t := 89) (p := 2) (v := .tmp 85) rfl ?_); refine wpList_store_row rfl 89 (.tmp 2) (.tmp 85) rfl w.heap.size D rfl rfl 89 zeros64 H2.out HIF.out HZS.out HONE.out ?_))
      have HSR := setRow_heap wr w.heap.size zeros64 D _ _ H2.out
      refine bodyPost_ret (v := .agg D) (results_cell_row rfl _ _ w.heap.size 89 D (0, 0) _ rfl HSR Try.underlying89 rfl HIF.out) rfl ⟨by rw [HFIN.out], below_setRow HB.out (Nat.le_refl _) D⟩
end Go.Proofs.Ytbebkogkeepfoaa.Sha
