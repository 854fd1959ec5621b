import Derived.Test.YtbebkogkeepfoaaShaBits
import Derived.StillTailTactics
/- The words of a block: sha.spread walked. -/
namespace Go.Proofs.Ytbebkogkeepfoaa.Sha
set_option linter.unusedVariables false
open Go.RowKit Go.Proofs.Ytbebkogkeepfoaa.Base Go.Proofs.Ytbebkogkeepfoaa.ShaPlain Go.Proofs.YtbebkogkeepfoaaW.PrintWords Go.Proofs.YtbebkogkeepfoaaW.PrintLast Go.Proofs.YtbebkogkeepfoaaW.PrintMore
/-- The bytes of a block that lies within a block of memory. -/
def Blk (w : World) (g o : Nat) (b : List Int) : Prop := ∀ j, j < 64 → w.cell? ⟨g, o + j, none⟩ = some (.int .u8 (b.getD j 0))
theorem Blk.below {w w1 : World} {g o : Nat} {b : List Int} (h : Blk w g o b) (hb : Below w.heap.size w w1) : Blk w1 g o b := fun j hj => (hb.cell (World.block_lt_of_cell? _ _ (h j hj))).trans (h j hj)
theorem nums_set (k : IntKind) (xs : List Int) (i : Nat) (x : Int) : (nums k xs).toArray.setIfInBounds i (.int k x) = (nums k (xs.set i x)).toArray := by
  simp [nums]
/-- Words in a block of their own. -/
def Words (w : World) (g T : Nat) (ws : List Int) : Prop := w.heap[g]? = some (.cells (nums .u32 ws).toArray T (0, 0))
theorem Words.cell {w : World} {g T : Nat} {ws : List Int} (h : Words w g T ws) (i : Nat) (hi : i < ws.length) : w.cell? ⟨g, i, none⟩ = some (.int .u32 (ws.getD i 0)) := by
  rw [blk_cell h i]
  simp [nums, List.getElem?_eq_getElem hi, List.getD_eq_getElem?_getD]
theorem Words.free {w : World} {g T : Nat} {ws : List Int} (h : Words w g T ws) (i : Nat) : w.frozen? ⟨g, i, none⟩ = false := blk_frozen h i
theorem Words.set {w : World} {g T : Nat} {ws : List Int} (h : Words w g T ws) (i : Nat) (x : Int) : Words (w.setCell ⟨g, i, none⟩ (.int .u32 x)) g T (ws.set i x) := by
  have := blk_set h i (.int .u32 x)
  rw [nums_set] at this
  exact this
theorem Words.lt {w : World} {g T : Nat} {ws : List Int} (h : Words w g T ws) : g < w.heap.size := blk_lt h
theorem word4_eq {a b c d : Int} (ha : 0 ≤ a ∧ a ≤ 255) (hb : 0 ≤ b ∧ b ≤ 255) (hc : 0 ≤ c ∧ c ≤ 255) (hd : 0 ≤ d ∧ d ≤ 255) :
    bits .or .u32 (bits .or .u32 (bits .or .u32 (IntKind.u32.wrap (IntKind.u32.wrap a * 16777216)) (IntKind.u32.wrap (IntKind.u32.wrap b * 65536))) (IntKind.u32.wrap (IntKind.u32.wrap c * 256))) (IntKind.u32.wrap d) = word4 a b c d := by
  unfold word4
  simp only [IntKind.wrap_u32]
  rw [show a % 4294967296 = a from by omega, show (b % 4294967296 * 65536) % 4294967296 = b * 65536 from by omega, show (c % 4294967296 * 256) % 4294967296 = c * 256 from by omega, show d % 4294967296 = d from by omega]
def SpreadInv (w : World) (b : List Int) (k : Nat) (wr : World) : Prop := Words wr w.heap.size 89 (fill b k) ∧ Below w.heap.size w wr
theorem SpreadInv.next {w : World} {b : List Int} {k : Nat} {wr : World} (h : SpreadInv w b k wr) {v : Int} (hv : v = ShaPlain.next b (fill b k) k) : SpreadInv w b (k + 1) (wr.drew.setCell ⟨w.heap.size, k, none⟩ (.int .u32 v)) := by
  subst hv
  exact ⟨Words.set (w := wr.drew) h.1 k _, below_set (below_drew1 h.2) (Nat.le_refl _)⟩
theorem zeros_new (w : World) : (w.alloc (.cells #[.int .u32 0, .int .u32 0, .int .u32 0, .int .u32 0, .int .u32 0, .int .u32 0, .int .u32 0, .int .u32 0, .int .u32 0, .int .u32 0, .int .u32 0, .int .u32 0, .int .u32 0, .int .u32 0, .int .u32 0, .int .u32 0, .int .u32 0, .int .u32 0, .int .u32 0, .int .u32 0, .int .u32 0, .int .u32 0, .int .u32 0, .int .u32 0, .int .u32 0, .int .u32 0, .int .u32 0, .int .u32 0, .int .u32 0, .int .u32 0, .int .u32 0, .int .u32 0, .int .u32 0, .int .u32 0, .int .u32 0, .int .u32 0, .int .u32 0, .int .u32 0, .int .u32 0, .int .u32 0, .int .u32 0, .int .u32 0, .int .u32 0, .int .u32 0, .int .u32 0, .int .u32 0, .int .u32 0, .int .u32 0, .int .u32 0, .int .u32 0, .int .u32 0, .int .u32 0, .int .u32 0, .int .u32 0, .int .u32 0, .int .u32 0, .int .u32 0, .int .u32 0, .int .u32 0, .int .u32 0, .int .u32 0, .int .u32 0, .int .u32 0, .int .u32 0] 89)).heap[w.heap.size]? = some (.cells (nums .u32 (List.replicate 64 0)).toArray 89 (0, 0)) := blk_new _ _
set_option maxHeartbeats 4000000 in
set_option maxRecDepth 100000 in
theorem spread_c (g o : Nat) (b : List Int) (w : World) (hb : Blk w g o b) (hu : ∀ j, j < 64 → 0 ≤ b.getD j 0 ∧ b.getD j 0 ≤ 255) : Calls Try.prog 70 #[.pointer (some ⟨g, o, none⟩)] w fun e w' => ∃ p : Nat, e = .returned (.pointer (some ⟨p, 0, none⟩)) ∧ w.heap.size ≤ p ∧ Words w' p 89 (fill b 64) ∧ Below w.heap.size w w' := by
  have HB := Aside0.mk hb
  have HU := Aside0.mk hu
  clear hb hu
  have H0 := Aside0.mk (show SpreadInv w b 0 (w.alloc (.cells #[.int .u32 0, .int .u32 0, .int .u32 0, .int .u32 0, .int .u32 0, .int .u32 0, .int .u32 0, .int .u32 0, .int .u32 0, .int .u32 0, .int .u32 0, .int .u32 0, .int .u32 0, .int .u32 0, .int .u32 0, .int .u32 0, .int .u32 0, .int .u32 0, .int .u32 0, .int .u32 0, .int .u32 0, .int .u32 0, .int .u32 0, .int .u32 0, .int .u32 0, .int .u32 0, .int .u32 0, .int .u32 0, .int .u32 0, .int .u32 0, .int .u32 0, .int .u32 0, .int .u32 0, .int .u32 0, .int .u32 0, .int .u32 0, .int .u32 0, .int .u32 0, .int .u32 0, .int .u32 0, .int .u32 0, .int .u32 0, .int .u32 0, .int .u32 0, .int .u32 0, .int .u32 0, .int .u32 0, .int .u32 0, .int .u32 0, .int .u32 0, .int .u32 0, .int .u32 0, .int .u32 0, .int .u32 0, .int .u32 0, .int .u32 0, .int .u32 0, .int .u32 0, .int .u32 0, .int .u32 0, .int .u32 0, .int .u32 0, .int .u32 0, .int .u32 0] 89)) from ⟨zeros_new w, below_alloc (Below.refl _ _) _⟩)
  go_enter Try.func70, Try.ntmps70
  go_wp2
  go_loopw [4, 10] (fun _ i wr => ∃ k : Nat, k ≤ 16 ∧ i = .int .i64 k ∧ SpreadInv w b k wr) (fun _ i _ => 16 - (intOf i).toNat)
  case atStart => exact ⟨0, by omega, rfl, H0.out⟩
  case round =>
    obtain ⟨k, hk, rfl, hinv⟩ := hrel
    have HI := Aside0.mk hinv
    by_cases hlt : k < 16
    · have hc := HB.out.below hinv.2
      have hf : wr.drew.frozen? ⟨w.heap.size, k, none⟩ = false := hinv.1.free k
      have hd : wr.drew.cell? ⟨w.heap.size, k, none⟩ = some (.int .u32 ((fill b k).getD k 0)) := hinv.1.cell k (by rw [fill_len]; omega)
      obtain ⟨x0, hx0⟩ : ∃ x, b.getD (4 * k) 0 = x := ⟨_, rfl⟩
      obtain ⟨x1, hx1⟩ : ∃ x, b.getD (4 * k + 1) 0 = x := ⟨_, rfl⟩
      obtain ⟨x2, hx2⟩ : ∃ x, b.getD (4 * k + 2) 0 = x := ⟨_, rfl⟩
      obtain ⟨x3, hx3⟩ : ∃ x, b.getD (4 * k + 3) 0 = x := ⟨_, rfl⟩
      obtain ⟨old, hold⟩ : ∃ x, (fill b k).getD k 0 = x := ⟨_, rfl⟩
      have c0 := hc (4 * k) (by omega)
      have c1 := hc (4 * k + 1) (by omega)
      have c2 := hc (4 * k + 2) (by omega)
      have c3 := hc (4 * k + 3) (by omega)
      have HV := Aside0.mk (show bits .or .u32 (bits .or .u32 (bits .or .u32 (IntKind.u32.wrap (IntKind.u32.wrap x0 * 16777216)) (IntKind.u32.wrap (IntKind.u32.wrap x1 * 65536))) (IntKind.u32.wrap (IntKind.u32.wrap x2 * 256))) (IntKind.u32.wrap x3) = ShaPlain.next b (fill b k) k by
        rw [word4_eq (hx0 ▸ HU.out _ (by omega)) (hx1 ▸ HU.out _ (by omega)) (hx2 ▸ HU.out _ (by omega)) (hx3 ▸ HU.out _ (by omega)), ShaPlain.next, if_pos hlt, hx0, hx1, hx2, hx3])
      rw [hx0] at c0
      rw [hx1] at c1
      rw [hx2] at c2
      rw [hx3] at c3
      rw [hold] at hd
      clear hc hx0 hx1 hx2 hx3 hold hinv
      have e0 : IntKind.i64.wrap (4 * (k : Int)) = 4 * (k : Int) := IntWalk.i64_in _ (by omega)
      have t0 : (4 * (k : Int)).toNat = 4 * k := by omega
      have g0 : (0 : Int) ≤ 4 * (k : Int) := by omega
      have f0 : 4 * (k : Int) < 64 := by omega
      have e1 : IntKind.i64.wrap (4 * (k : Int) + 1) = 4 * (k : Int) + 1 := IntWalk.i64_in _ (by omega)
      have t1 : (4 * (k : Int) + 1).toNat = 4 * k + 1 := by omega
      have g1 : (0 : Int) ≤ 4 * (k : Int) + 1 := by omega
      have f1 : 4 * (k : Int) + 1 < 64 := by omega
      have e2 : IntKind.i64.wrap (4 * (k : Int) + 2) = 4 * (k : Int) + 2 := IntWalk.i64_in _ (by omega)
      have t2 : (4 * (k : Int) + 2).toNat = 4 * k + 2 := by omega
      have g2 : (0 : Int) ≤ 4 * (k : Int) + 2 := by omega
      have f2 : 4 * (k : Int) + 2 < 64 := by omega
      have e3 : IntKind.i64.wrap (4 * (k : Int) + 3) = 4 * (k : Int) + 3 := IntWalk.i64_in _ (by omega)
      have t3 : (4 * (k : Int) + 3).toNat = 4 * k + 3 := by omega
      have g3 : (0 : Int) ≤ 4 * (k : Int) + 3 := by omega
      have f3 : 4 * (k : Int) + 3 < 64 := by omega
      have g4 : (0 : Int) ≤ (k : Int) := by omega
      have f4 : (k : Int) < 64 := by omega
      go_wp2
      go_still_tail 39, (by kernel_rfl)
      change wpList _ _ _ _ _ wr.drew
      obtain ⟨w2, hw2⟩ : ∃ w2, wr.drew = w2 := ⟨_, rfl⟩
      have HW := Aside0.mk hw2
      rw [hw2] at hf hd ⊢
      clear hw2 e0 e1 e2 e3 t0 t1 t2 t3 g0 g1 g2 g3 f0 f1 f2 f3
      go_wp2
      go_roundw
      case rel => exact ⟨k + 1, by omega, by go_num, by rw [← HW.out]; exact HI.out.next HV.out⟩
      case measure => simp [intOf]; omega
    · have HK := Aside0.mk (show k = 16 by omega)
      have hge : 16 ≤ k := by omega
      clear hinv hlt hk
      go_wp2
      clear hge
      go_loopw [5, 6, 7, 8, 9] (fun i _ _ _ _ wr => ∃ k : Nat, 16 ≤ k ∧ k ≤ 64 ∧ i = .int .i64 k ∧ SpreadInv w b k wr) (fun i _ _ _ _ _ => 64 - (intOf i).toNat)
      case atStart => exact ⟨16, by omega, by omega, rfl, by have h := HI.out; rwa [HK.out] at h⟩
      case round =>
        clear HI HK
        obtain ⟨k, hk0, hk, rfl, hinv⟩ := hrel
        have HI := Aside0.mk hinv
        by_cases hlt : k < 64
        · have hU := fun j => (fill_u32 b k).at j
          have hcw : ∀ j, j < 64 → wr.cell? ⟨w.heap.size, j, none⟩ = some (.int .u32 ((fill b k).getD j 0)) := fun j hj => hinv.1.cell j (by rw [fill_len]; omega)
          have hd := hcw k (by omega)
          have c15 := hcw (k - 15) (by omega)
          have c2 := hcw (k - 2) (by omega)
          have c16 := hcw (k - 16) (by omega)
          have c7 := hcw (k - 7) (by omega)
          obtain ⟨x15, hx15⟩ : ∃ x, (fill b k).getD (k - 15) 0 = x := ⟨_, rfl⟩
          obtain ⟨x2, hx2⟩ : ∃ x, (fill b k).getD (k - 2) 0 = x := ⟨_, rfl⟩
          obtain ⟨x16, hx16⟩ : ∃ x, (fill b k).getD (k - 16) 0 = x := ⟨_, rfl⟩
          obtain ⟨x7, hx7⟩ : ∃ x, (fill b k).getD (k - 7) 0 = x := ⟨_, rfl⟩
          obtain ⟨old, hold⟩ : ∃ x, (fill b k).getD k 0 = x := ⟨_, rfl⟩
          have r15 := hU (k - 15)
          have r2 := hU (k - 2)
          rw [hx15] at c15 r15
          rw [hx2] at c2 r2
          rw [hx16] at c16
          rw [hx7] at c7
          rw [hold] at hd
          have HR15 := Aside0.mk r15
          have HR2 := Aside0.mk r2
          have HV := Aside0.mk (show (x16 + low x15 + x7 + high x2) % 4294967296 = ShaPlain.next b (fill b k) k by
            rw [ShaPlain.next, if_neg (by omega), hx15, hx2, hx16, hx7, m32])
          clear hcw hU hx15 hx2 hx16 hx7 hold hinv r15 r2
          have e2 : IntKind.i64.wrap ((k : Int) - 2) = (k : Int) - 2 := IntWalk.i64_in _ (by omega)
          have t2 : ((k : Int) - 2).toNat = k - 2 := by omega
          have g2 : (0 : Int) ≤ (k : Int) - 2 := by omega
          have f2 : (k : Int) - 2 < 64 := by omega
          have e7 : IntKind.i64.wrap ((k : Int) - 7) = (k : Int) - 7 := IntWalk.i64_in _ (by omega)
          have t7 : ((k : Int) - 7).toNat = k - 7 := by omega
          have g7 : (0 : Int) ≤ (k : Int) - 7 := by omega
          have f7 : (k : Int) - 7 < 64 := by omega
          have e15 : IntKind.i64.wrap ((k : Int) - 15) = (k : Int) - 15 := IntWalk.i64_in _ (by omega)
          have t15 : ((k : Int) - 15).toNat = k - 15 := by omega
          have g15 : (0 : Int) ≤ (k : Int) - 15 := by omega
          have f15 : (k : Int) - 15 < 64 := by omega
          have e16 : IntKind.i64.wrap ((k : Int) - 16) = (k : Int) - 16 := IntWalk.i64_in _ (by omega)
          have t16 : ((k : Int) - 16).toNat = k - 16 := by omega
          have g16 : (0 : Int) ≤ (k : Int) - 16 := by omega
          have f16 : (k : Int) - 16 < 64 := by omega
          have g4 : (0 : Int) ≤ (k : Int) := by omega
          have f4 : (k : Int) < 64 := by omega
          go_wp2
          go_quiet (fail)
          have HI2 := Aside0.mk (show SpreadInv w b k (wr.drewN nq) from ⟨HI.out.1, pw_below_drewN HI.out.2 nq⟩)
          have hf' : (wr.drewN nq).drew.frozen? ⟨w.heap.size, k, none⟩ = false := HI.out.1.free k
          have hd' : (wr.drewN nq).drew.cell? ⟨w.heap.size, k, none⟩ = some (.int .u32 old) := hd
          have c16' : (wr.drewN nq).cell? ⟨w.heap.size, k - 16, none⟩ = some (.int .u32 x16) := c16
          have c7' : (wr.drewN nq).cell? ⟨w.heap.size, k - 7, none⟩ = some (.int .u32 x7) := c7
          clear c15 c2 c16 c7 hd HI
          revert HI2 hf' hd' c16' c7'
          generalize wr.drewN nq = wq
          intro HI2 hf hd c16 c7
          go_wp2_with (fail)
          refine (right_7 x15 _ HR15.out.1 HR15.out.2).mono ?_
          rintro e w' ⟨rfl, rfl⟩
          go_wp2_with (fail)
          refine (right_18 x15 _ HR15.out.1 HR15.out.2).mono ?_
          rintro e w' ⟨rfl, rfl⟩
          go_wp2_with (fail)
          refine (right_17 x2 _ HR2.out.1 HR2.out.2).mono ?_
          rintro e w' ⟨rfl, rfl⟩
          go_wp2_with (fail)
          refine (right_19 x2 _ HR2.out.1 HR2.out.2).mono ?_
          rintro e w' ⟨rfl, rfl⟩
          go_wp2_with (fail)
          have h16 : (16 : Int) ≤ (k : Int) := by omega
          have l16 : (k : Int) < 64 + 16 := by omega
          have h7 : (7 : Int) ≤ (k : Int) := by omega
          have l7 : (k : Int) < 64 + 7 := by omega
          go_still_tail 15, (by kernel_rfl)
          change wpList _ _ _ _ _ wq.drew
          obtain ⟨w2, hw2⟩ : ∃ w2, wq.drew = w2 := ⟨_, rfl⟩
          have HW := Aside0.mk hw2
          rw [hw2] at hf hd ⊢
          clear hw2 e2 e7 e15 e16 t2 t7 t15 t16 g2 g7 g15 g16 f2 f7 f15 f16
          go_wp2
          go_roundw
          case rel => exact ⟨k + 1, by omega, by omega, by go_num, by rw [← HW.out]; exact HI2.out.next HV.out⟩
          case measure => simp [intOf]; omega
        · have hk64 : k = 64 := by omega
          subst hk64
          clear hinv hlt hk hk0
          go_wp2
          go_ret
          exact ⟨_, rfl, Nat.le_refl _, HI.out.1, HI.out.2⟩
end Go.Proofs.Ytbebkogkeepfoaa.Sha
