import Derived.Test.YtbebkogkeepfoaaShaHex
import Derived.Deep.QuietTactic
import Derived.BigQuiet
import Derived.StillTactics
/- The document's Hex walked. -/
namespace Go.Proofs.Ytbebkogkeepfoaa.Sha
set_option linter.unusedVariables false
open Go.RowKit Go.Proofs.Ytbebkogkeepfoaa.Base Go.Proofs.Ytbebkogkeepfoaa.ShaPlain Go.Proofs.Ytbebkogkeepfoaa.Aid Go.Proofs.YtbebkogkeepfoaaW.PrintWords Go.Proofs.YtbebkogkeepfoaaW.PrintLast Go.Proofs.YtbebkogkeepfoaaW.PrintMore
theorem run_slice_dig (n : Int) (h0 : 0 ≤ n) (h1 : n ≤ 15) (w : World) : (Instr.slice 9 (.string ⟨#[48, 49, 50, 51, 52, 53, 54, 55, 56, 57, 97, 98, 99, 100, 101, 102]⟩) (some (.int .i64 n)) (some (.int .i64 (n + 1))) none).run Try.prog w = .ok (.string (strOfNums [dig n])) w := by
  have : n = 0 ∨ n = 1 ∨ n = 2 ∨ n = 3 ∨ n = 4 ∨ n = 5 ∨ n = 6 ∨ n = 7 ∨ n = 8 ∨ n = 9 ∨ n = 10 ∨ n = 11 ∨ n = 12 ∨ n = 13 ∨ n = 14 ∨ n = 15 := by omega
  rcases this with rfl | rfl | rfl | rfl | rfl | rfl | rfl | rfl | rfl | rfl | rfl | rfl | rfl | rfl | rfl | rfl
  all_goals (clear h0 h1; rw [run_slice_string (h := Try.underlying9) (h0 := by decide) (h1 := by decide) (h2 := by decide)]; rfl)
theorem str_app (a b : List Int) : strOfNums (a ++ b) = strOfNums a ++ strOfNums b := by
  apply ByteArray.ext
  apply Array.ext'
  simp [strOfNums]
set_option maxHeartbeats 4000000 in
set_option maxRecDepth 100000 in
theorem rhex_c (d : List Int) (hd : d.length = 32) (hu : ∀ x ∈ d, 0 ≤ x ∧ x ≤ 255) (w : World) :
    Calls Try.prog 17 #[.agg (nums .u8 d).toArray] w fun e w' => e = .returned (.string (strOfNums (hexB d))) ∧ Below w.heap.size w w' := by
  obtain ⟨C, hC⟩ : ∃ C, (nums .u8 d).toArray = C := ⟨_, rfl⟩
  have hcs : C.size = 32 := by rw [← hC]; simp [nums, hd]
  have hget : ∀ k, k < 32 → C[k]? = some (.int .u8 (d.getD k 0)) := fun k hk => by rw [← hC]; simp [nums, List.getElem?_eq_getElem (show k < d.length by omega), List.getD_eq_getElem?_getD]
  have HG := Aside0.mk hget
  have HD := Aside0.mk hd
  have HU := Aside0.mk hu
  rw [hC]
  clear hC hcs hget hd hu
  go_enter Try.func17, Try.ntmps17
  go_wp2_with (fail)
  have HBX := Aside0.mk (show (w.alloc (.cells C 24)).heap[w.heap.size]? = some (.cells C 24 (0, 0)) from blk_new _ _)
  go_loopw [4, 5, 6, 7] (fun v i _ _ wx => ∃ k : Nat, k ≤ 32 ∧ i = .int .i64 k ∧ v = .string (strOfNums (hexB (d.take k))) ∧ Below w.heap.size w wx ∧ wx.heap[w.heap.size]? = some (.cells C 24 (0, 0))) (fun _ i _ _ _ => 32 - (intOf i).toNat)
  case atStart => exact ⟨0, by omega, rfl, rfl, below_alloc (Below.refl _ _) _, HBX.out⟩
  case round =>
    clear HBX
    obtain ⟨k, hk, rfl, rfl, hbl, hbx⟩ := hrel
    have HB := Aside0.mk hbl
    have HX0 := Aside0.mk hbx
    by_cases hlt : k < 32
    · obtain ⟨x, hx⟩ : ∃ x, d.getD k 0 = x := ⟨_, rfl⟩
      have hc : wr.cell? ⟨w.heap.size, k, none⟩ = some (.int .u8 x) := by rw [blk_cell hbx k, HG.out k hlt, hx]
      have HX := Aside0.mk hx
      have hxr : 0 ≤ x ∧ x ≤ 255 := by
        rw [← hx, List.getD_eq_getElem?_getD, List.getElem?_eq_getElem (show k < d.length by have := HD.out; omega)]
        exact HU.out _ (List.getElem_mem _)
      have x0 := hxr.1
      have x1 := hxr.2
      have HH := Aside0.mk (show hexB (d.take (k + 1)) = hexB (d.take k) ++ [dig (x / 16), dig (x % 16)] by
        have hlt' : k < d.length := by have := HD.out; omega
        rw [Aid.take_snoc d k hlt', hexB_snoc, ← hx, List.getD_eq_getElem?_getD, List.getElem?_eq_getElem hlt']; rfl)
      clear hbl hbx hx hxr
      have k0 : (0 : Int) ≤ (k : Int) := by omega
      have k1 : (k : Int) < 32 := by omega
      go_wp2
      go_quiet (fail)
      have HB2 := Aside0.mk (pw_below_drewN HB.out nq)
      have HX2 := Aside0.mk (show (wr.drewN nq).heap[w.heap.size]? = some (.cells C 24 (0, 0)) from HX0.out)
      obtain ⟨w2, hw2⟩ : ∃ w2, wr.drewN nq = w2 := ⟨_, rfl⟩
      rw [hw2] at HB2 HX2 ⊢
      obtain ⟨y, hy⟩ : ∃ y, x / 16 = y := ⟨_, rfl⟩
      obtain ⟨z, hz⟩ : ∃ z, x % 16 = z := ⟨_, rfl⟩
      have y0 : 0 ≤ y := by omega
      have y1 : y ≤ 15 := by omega
      have z0 : 0 ≤ z := by omega
      have z1 : z ≤ 15 := by omega
      rw [hy, hz] at HH ⊢
      clear hw2 hc hy hz x0 x1
      have e1 : IntKind.i64.wrap (y + 1) = y + 1 := IntWalk.i64_in _ (by omega)
      have e2 : IntKind.i64.wrap (z + 1) = z + 1 := IntWalk.i64_in _ (by omega)
      have i1 := fun W => run_slice_dig y y0 y1 W
      have i2 := fun W => run_slice_dig z z0 z1 W
      obtain ⟨ya, hya⟩ : ∃ s, strOfNums [dig y] = s := ⟨_, rfl⟩
      obtain ⟨yb, hyb⟩ : ∃ s, strOfNums [dig z] = s := ⟨_, rfl⟩
      have HYA := Aside0.mk hya
      have HYB := Aside0.mk hyb
      rw [hya] at i1
      rw [hyb] at i2
      clear hya hyb
      have HL := Aside0.mk (show (hexB (d.take k)).length ≤ 64 by rw [hexB_len, List.length_take]; omega)
      have sa : ya.size = 1 := by rw [← HYA.out, strOfNums_size]; rfl
      have sb : yb.size = 1 := by rw [← HYB.out, strOfNums_size]; rfl
      obtain ⟨sk, hsk⟩ : ∃ s, strOfNums (hexB (d.take k)) = s := ⟨_, rfl⟩
      have sz : sk.size ≤ 64 := by rw [← hsk, strOfNums_size]; exact HL.out
      have q1 : ¬ 9223372036854775807 < sk.size + ya.size := by omega
      have q2 : ¬ 9223372036854775807 < sk.size + ya.size + yb.size := by omega
      have HE := Aside0.mk (show sk ++ ya ++ yb = strOfNums (hexB (d.take (k + 1))) by
        rw [HH.out, ← hsk, ← HYA.out, ← HYB.out, show [dig y, dig z] = [dig y] ++ [dig z] from rfl, ← List.append_assoc, str_app, str_app])
      rw [hsk]
      clear hsk sa sb sz HH HYA HYB
      go_wp2
      go_quiet (fail)
      go_wp2
      go_roundw
      case rel => exact ⟨k + 1, by omega, by go_num, by rw [HE.out], pw_below_drewN HB2.out nq, HX2.out⟩
      case measure => simp [intOf]; omega
    · have HKE := Aside0.mk (show d.take k = d from List.take_of_length_le (by have := HD.out; omega))
      have hge : 32 ≤ k := by omega
      clear hbl hlt hk
      go_wp2
      rw [HKE.out]
      go_ret
      exact ⟨rfl, HB.out⟩
end Go.Proofs.Ytbebkogkeepfoaa.Sha
