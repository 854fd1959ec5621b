/- Own and printed texts, laid together. -/
import Derived.Test.YtbebkogkeepfoaaTrXE
/- The law TreeBack walked. -/
namespace Go.Proofs.Ytbebkogkeepfoaa.Tree
set_option linter.unusedVariables false
set_option linter.unusedSimpArgs false
open Go.RowKit Go.Proofs.Ytbebkogkeepfoaa.Base Go.Proofs.Ytbebkogkeepfoaa.TlvPlain Go.Proofs.Ytbebkogkeepfoaa.ShaPlain Go.Proofs.Ytbebkogkeepfoaa.Sha Go.Proofs.Ytbebkogkeepfoaa.Com Go.Proofs.Ytbebkogkeepfoaa.Aid Go.Proofs.YtbebkogkeepfoaaW.PrintWords Go.Proofs.YtbebkogkeepfoaaW.PrintLast Go.Proofs.YtbebkogkeepfoaaW.PrintMore
set_option maxHeartbeats 4000000 in
set_option maxRecDepth 100000 in
theorem back_long (A : Option Addr) (n c : Nat) (hn : 40 < n) (w : World) : Calls Try.prog 12 #[.slice A n c] w (RetB w true) := by
  have HB := Aside0.mk (Below.refl w.heap.size w)
  have d1 : decide ((40 : Int) < (n : Int)) = true := decide_eq_true (by omega)
  have d2 : decide (40 < n) = true := decide_eq_true hn
  unfold RetB
  clear hn
  go_enter Try.func12, Try.ntmps12
  go_wp2_with (go_at_call 32; refine (live26_c _).mono ?_; rintro e w1 ⟨rfl, hb⟩; have HB1 := Aside0.mk (below_step HB.out hb); clear hb)
  go_ret
  exact ⟨rfl, HB1.out⟩
/-- The world in the rounds: the root's block, and the frontier of what was. -/
structure BackI (w : World) (g : Nat) (R : List Value) (l : List Sm) (k : Nat) (v : Value) (W : World) : Prop where
  r : AtC W ⟨g, 0, none⟩ R
  f : ∃ A c, v = .slice A (frontT (l.take k)).length c ∧ (frontT (l.take k)).length ≤ c ∧ Rs W A (frontT (l.take k))
  b : Below w.heap.size w W
set_option maxHeartbeats 16000000 in
set_option maxRecDepth 100000 in
theorem back_walk (l : List Sm) (n : Nat) (hl : l.length = n) (hm : n ≤ 40) (hu : Lu l) (A : Option Addr) (c : Nat) (hc : n ≤ c) (w : World) (hr : Rs w A l) :
    Calls Try.prog 12 #[.slice A n c] w (RetB w true) := by
  obtain ⟨R, hR⟩ := sumC (rootT l) (rootT_len _)
  have HP6 := Aside0.mk (fun W hW => root_c n l hl (by omega) A c W (Kd.C_below hr hW) hc hu)
  have HP8 := Aside0.mk (fun W hW => front_c l n hl (by omega) hu A c hc W (Kd.C_below hr hW))
  have HP1 := Aside0.mk (fun (i : Nat) W hW => path_any l n hl (by omega) hu (i : Int) A c hc W (Kd.C_below hr hW))
  have hfl : (frontT l).length ≤ n := by rw [← hl]; exact frontT_le l
  have hfr : rightB (frontT l).length (n : Int) = true := by rw [← hl]; exact front_right l (by omega)
  have HP5 := Aside0.mk (fun A' c' hc' W hW => fold_c (frontT l) (frontT l).length rfl (frontT_lu l) (by omega) A' c' hc' (n : Int) W hW)
  unfold Ret at HP6
  unfold RetV at HP8
  unfold RetO at HP1
  unfold Ret2 at HP5
  rw [hfr, if_pos rfl, fold_front, hR.v] at HP5
  rw [hR.v] at HP6
  have HR := Aside0.mk hR
  have HLN := Aside0.mk (And.intro hl (And.intro hm (And.intro hu hfl)))
  have HRL := Aside0.mk hr
  have HIR := Aside0.mk (show (Try.prog.info? 24).map (·.size) = some R.length from by rw [hR.lenC]; exact info_32)
  have HJR := Aside0.mk (show (Try.prog.info? 24).map (·.size) = some R.toArray.size from by simp [hR.lenC, info_32])
  have HOR := Aside0.mk (show R.toArray.all (·.oneCell') = true from by rw [← hR.eq]; exact nums_one _ _)
  have HSR := Aside0.mk (show Z32.size = R.toArray.size from by simp [Z32, nums, hR.lenC])
  have HB := Aside0.mk (Below.refl w.heap.size w)
  have d1 : decide ((40 : Int) < (n : Int)) = false := decide_eq_false (by omega)
  have d2 : decide (40 < n) = false := decide_eq_false (by omega)
  have q1 : (n : Int) ≤ 40 := by omega
  have heq := run_eq_sum (rootT l) (rootT l) (rootT_len _) (rootT_len _)
  rw [hR.v, decide_eq_true rfl] at heq
  have hguard := guard_32
  have hu24 := Try.underlying24
  have HEQ := Aside0.mk heq
  unfold RetB
  clear hl hm hu hc hr hR hfl hfr heq
  go_enter Try.func12, Try.ntmps12
  go_wp2_with (fail)
  refine (HP6.out _ HB.out).mono ?_
  rintro e w1 ⟨rfl, hb⟩
  have HB1 := Aside0.mk hb
  have HG := Aside0.mk (show (w1.alloc (.cells Z32 24)).heap[w1.heap.size]? = some (.cells Z32 24 (0, 0)) from blk_new _ _)
  have HG2 := Aside0.mk (atC_blk (setRow_heap (w1.alloc (.cells Z32 24)) w1.heap.size Z32 R.toArray _ _ HG.out))
  have HB2 := Aside0.mk (show Below w.heap.size w ((w1.alloc (.cells Z32 24)).setRow w1.heap.size R.toArray) from below_setRow (below_alloc hb _) hb.size _)
  clear hb
  go_upto_region 4 with ((with_reducible refine gate_store (t := 24) (p := 3) (v := .tmp 17) rfl ?_); refine wpList_store_row rfl 24 (.tmp 3) (.tmp 17) rfl w1.heap.size R.toArray rfl rfl 24 Z32 HG.out HJR.out HSR.out HOR.out ?_)
  obtain ⟨w2, hw2⟩ : ∃ W, (w1.alloc (.cells Z32 24)).setRow w1.heap.size R.toArray = W := ⟨_, rfl⟩
  rw [hw2] at HG2 HB2
  rw [show (w1.alloc (.cells #[.int .u8 0, .int .u8 0, .int .u8 0, .int .u8 0, .int .u8 0, .int .u8 0, .int .u8 0, .int .u8 0, .int .u8 0, .int .u8 0, .int .u8 0, .int .u8 0, .int .u8 0, .int .u8 0, .int .u8 0, .int .u8 0, .int .u8 0, .int .u8 0, .int .u8 0, .int .u8 0, .int .u8 0, .int .u8 0, .int .u8 0, .int .u8 0, .int .u8 0, .int .u8 0, .int .u8 0, .int .u8 0, .int .u8 0, .int .u8 0, .int .u8 0, .int .u8 0] 24)).setRow w1.heap.size R.toArray = w2 from hw2]
  clear hw2 HG HB1 HB
  obtain ⟨g, hg⟩ : ∃ g, w1.heap.size = g := ⟨_, rfl⟩
  rw [hg] at HG2 ⊢
  clear hg
  have H0 := Aside0.mk (show BackI w g R l 0 (.slice none 0 0) w2 from ⟨HG2.out, ⟨none, 0, by rw [List.take_zero, frontT_nil]; exact ⟨rfl, Nat.le_refl _, rfl, by simp, fun h => by simp at h⟩⟩, HB2.out⟩)
  clear HG2 HB2
  go_wp2_with (fail)
  go_loopw [4, 5] (fun v i wx => ∃ k : Nat, k ≤ n ∧ i = .int .i64 k ∧ BackI w g R l k v wx) (fun _ i _ => n - (intOf i).toNat)
  case atStart => exact ⟨0, Nat.zero_le _, rfl, H0.out⟩
  case round =>
    clear H0
    obtain ⟨k, hk, rfl, hinv⟩ := hrel
    obtain ⟨Af, cf, rfl, hcf, hrf⟩ := hinv.f
    have HA := Aside0.mk hinv.r
    have HB := Aside0.mk hinv.b
    have HRF := Aside0.mk hrf
    have HCF := Aside0.mk hcf
    clear hinv hrf hcf
    obtain ⟨W, hwy⟩ : ∃ wy, wy = wr := ⟨_, rfl⟩
    subst hwy
    by_cases hlt : k < n
    · obtain ⟨ad, rfl, hat, hal⟩ := rs_at HRL.out k (by have := HLN.out.1; omega)
      have hxu := HLN.out.2.2.1 _ (List.getElem_mem (show k < l.length by have := HLN.out.1; omega))
      have hgd : l.getD k Z = l[k]'(by have := HLN.out.1; omega) := by rw [List.getD_eq_getElem?_getD, List.getElem?_eq_getElem (by have := HLN.out.1; omega)]; rfl
      have hchk := check_path l k (by have := HLN.out.1; omega) (by have := HLN.out; omega)
      have htk := take_snoc l k (by have := HLN.out.1; omega)
      rw [hgd] at hchk
      obtain ⟨x, hx⟩ : ∃ x, l[k]'(by have := HLN.out.1; omega) = x := ⟨_, rfl⟩
      rw [hx] at hat hal hxu hchk htk
      rw [HLN.out.1] at hchk
      obtain ⟨X, hX⟩ := sumC x hal
      rw [hX.eq] at hat
      have HX := Aside0.mk hX
      have HIX := Aside0.mk (show (Try.prog.info? 24).map (·.size) = some X.length from by rw [hX.lenC]; exact info_32)
      have HAT := Aside0.mk hat
      have hPT : pathO l (k : Int) = pathT l k := by unfold pathO; rw [if_pos (by have := HLN.out.1; omega), Int.toNat_natCast]
      have HPATH := Aside0.mk (fun W hW => HP1.out k W hW)
      rw [hPT, decide_eq_true (show (0 : Int) ≤ (k : Int) ∧ (k : Int) < (n : Int) by omega)] at HPATH
      have HCHK := Aside0.mk (fun A' c' hc' W hW => check_c (rootT l) x (rootT_len _) hal hxu.2 (k : Int) (n : Int) (pathT l k) (by have := pathT_len l k; have := HLN.out; omega) (pathT_lu l k) A' c' hc' W hW)
      unfold RetB at HCHK
      rw [hchk, HR.out.v, hX.v] at HCHK
      have hfk : (frontT (l.take k)).length ≤ 1000 := Nat.le_trans (frontT_le _) (by rw [List.length_take]; have := HLN.out; omega)
      have hlk : (l.take k).length = k := by rw [List.length_take]; have := HLN.out; omega
      have hfrk := front_right (l.take k) (by have := HLN.out; omega)
      rw [hlk] at hfrk
      have HGROW := Aside0.mk (fun A' c' hc' W hW => grow_c (frontT (l.take k)) (frontT (l.take k)).length rfl (frontT_lu _) hfk A' c' hc' k (by have := HLN.out; omega) hfrk x hal hxu.2 W hW)
      unfold RetO at HGROW
      have hgf := grow_front (l.take k) x
      rw [hlk, ← htk] at hgf
      rw [hgf, hX.v] at HGROW
      have HK := Aside0.mk hlt
      have p1 : (0 : Int) ≤ (k : Int) := by omega
      have p2 : (k : Int) < (n : Int) := by omega
      have p3 : decide ((k : Int) < (n : Int)) = true := decide_eq_true p2
      have p4 : decide (k < n) = true := decide_eq_true hlt
      clear hat hal hxu hgd hchk htk hx hX hPT hfk hlk hfrk hgf hk hlt
      go_wp2_with (fail)
      refine (HPATH.out _ HB.out).mono ?_
      rintro e w3 ⟨v, rfl, ho, hb⟩
      obtain ⟨Ap, cp, rfl, hcp, hrp⟩ := Kd.R_reads ho
      have HRP := Aside0.mk hrp
      have HCP := Aside0.mk hcp
      have HA3 := Aside0.mk (HA.out.below hb)
      have HB3 := Aside0.mk (below_step HB.out hb)
      have HRF3 := Aside0.mk (Kd.C_below HRF.out hb)
      have HAX := Aside0.mk (HAT.out.below HB3.out)
      have HW := Aside0.mk (Below.refl w3.heap.size w3)
      clear ho hb hcp hrp
      go_wp2_with (fail)
      refine wp_region_held_drew (S := fun w' => AtC w' ⟨g, 0, none⟩ R ∧ AtC w' (ad.add (k * 32)) X) (by kernel_rfl) (And.intro HA3.out HAX.out) (fun hHeld => ?_)
      (refine wpAnyH_take (i := 0) (v := ?_) rfl (by kernel_rfl) (by kernel_rfl) (by kernel_rfl) (fun _ _ _ h => h) (Or.inl ⟨by rfl, ?_⟩) (by assumption) ?_; (case' refine_2 => (intro w hSw; go_simp; try with_reducible rfl)); (try simp only [Act.put, List.getElem_toArray, List.getElem_cons_zero, List.getElem_cons_succ, List.setIfInBounds_toArray, List.set_cons_zero, List.set_cons_succ]))
      (refine wpAnyH_take (i := 1) (v := ?_) rfl (by kernel_rfl) (by kernel_rfl) (by kernel_rfl) (fun _ _ _ h => h) (Or.inl ⟨by rfl, ?_⟩) (by assumption) ?_; (case' refine_2 => (intro w hSw; go_simp; try with_reducible rfl)); (try simp only [Act.put, List.getElem_toArray, List.getElem_cons_zero, List.getElem_cons_succ, List.setIfInBounds_toArray, List.set_cons_zero, List.set_cons_succ]))
      (refine wpAnyH_take (i := 2) (v := ?_) rfl (by kernel_rfl) (by kernel_rfl) (by kernel_rfl) (fun _ _ _ h => h) (Or.inl ⟨by rfl, ?_⟩) (by assumption) ?_; (case' refine_2 => (intro w hSw; go_simp; try with_reducible rfl)); (try simp only [Act.put, List.getElem_toArray, List.getElem_cons_zero, List.getElem_cons_succ, List.setIfInBounds_toArray, List.set_cons_zero, List.set_cons_succ]))
      (refine wpAnyH_take (i := 3) rfl (by kernel_rfl) (by kernel_rfl) (by kernel_rfl) (fun _ _ _ h => h) (yieldsIf_load_at (by rfl) _ _ rfl ⟨g, 0, none⟩ rfl R _ (fun _ h => h.1) (by assumption) rfl HIR.out) (by assumption) ?_; (try simp only [Act.put, List.getElem_toArray, List.getElem_cons_zero, List.getElem_cons_succ, List.setIfInBounds_toArray, List.set_cons_zero, List.set_cons_succ]))
      (refine wpAnyH_take (i := 4) (v := ?_) rfl (by kernel_rfl) (by kernel_rfl) (by kernel_rfl) (fun _ _ _ h => h) (Or.inl ⟨by rfl, ?_⟩) (by assumption) ?_; (case' refine_2 => (intro w hSw; go_simp; try with_reducible rfl)); (try simp only [Act.put, List.getElem_toArray, List.getElem_cons_zero, List.getElem_cons_succ, List.setIfInBounds_toArray, List.set_cons_zero, List.set_cons_succ]))
      (refine wpAnyH_take (i := 5) (v := ?_) rfl (by kernel_rfl) (by kernel_rfl) (by kernel_rfl) (fun _ _ _ h => h) (Or.inl ⟨by rfl, ?_⟩) (by assumption) ?_; (case' refine_2 => (intro w hSw; go_simp; try with_reducible rfl)); (try simp only [Act.put, List.getElem_toArray, List.getElem_cons_zero, List.getElem_cons_succ, List.setIfInBounds_toArray, List.set_cons_zero, List.set_cons_succ]))
      (refine wpAnyH_take (i := 6) (v := ?_) rfl (by kernel_rfl) (by kernel_rfl) (by kernel_rfl) (fun _ _ _ h => h) (Or.inl ⟨by rfl, ?_⟩) (by assumption) ?_; (case' refine_2 => (intro w hSw; go_simp; try with_reducible rfl)); (try simp only [Act.put, List.getElem_toArray, List.getElem_cons_zero, List.getElem_cons_succ, List.setIfInBounds_toArray, List.set_cons_zero, List.set_cons_succ]))
      (refine wpAnyH_take (i := 7) rfl (by kernel_rfl) (by kernel_rfl) (by kernel_rfl) (fun _ _ _ h => h) (yieldsIf_load_at (by rfl) _ _ rfl (ad.add (k * 32)) rfl X _ (fun _ h => h.2) (by assumption) rfl HIX.out) (by assumption) ?_; (try simp only [Act.put, List.getElem_toArray, List.getElem_cons_zero, List.getElem_cons_succ, List.setIfInBounds_toArray, List.set_cons_zero, List.set_cons_succ]))
      (refine wpAnyH_take (i := 8) (v := ?_) rfl (by kernel_rfl) (by kernel_rfl) (by kernel_rfl) (fun _ _ _ h => h) (Or.inl ⟨by rfl, ?_⟩) (by assumption) ?_; (case' refine_2 => (intro w hSw; go_simp; try with_reducible rfl)); (try simp only [Act.put, List.getElem_toArray, List.getElem_cons_zero, List.getElem_cons_succ, List.setIfInBounds_toArray, List.set_cons_zero, List.set_cons_succ]))
      (refine wpAnyH_take (i := 9) (v := ?_) rfl (by kernel_rfl) (by kernel_rfl) (by kernel_rfl) (fun _ _ _ h => h) (Or.inl ⟨by rfl, ?_⟩) (by assumption) ?_; (case' refine_2 => (intro w hSw; go_simp; try with_reducible rfl)); (try simp only [Act.put, List.getElem_toArray, List.getElem_cons_zero, List.getElem_cons_succ, List.setIfInBounds_toArray, List.set_cons_zero, List.set_cons_succ]))
      (refine wpAnyH_take (i := 10) (v := ?_) rfl (by kernel_rfl) (by kernel_rfl) (by kernel_rfl) (fun _ _ _ h => h) (Or.inl ⟨by rfl, ?_⟩) (by assumption) ?_; (case' refine_2 => (intro w hSw; go_simp; try with_reducible rfl)); (try simp only [Act.put, List.getElem_toArray, List.getElem_cons_zero, List.getElem_cons_succ, List.setIfInBounds_toArray, List.set_cons_zero, List.set_cons_succ]))
      (refine wpAnyH_take (i := 11) (v := ?_) rfl (by kernel_rfl) (by kernel_rfl) (by kernel_rfl) (fun _ _ _ h => h) (Or.inl ⟨by rfl, ?_⟩) (by assumption) ?_; (case' refine_2 => (intro w hSw; go_simp; try with_reducible rfl)); (try simp only [Act.put, List.getElem_toArray, List.getElem_cons_zero, List.getElem_cons_succ, List.setIfInBounds_toArray, List.set_cons_zero, List.set_cons_succ]))
      (refine wpAnyH_ready (rs := [12]) (by kernel_rfl) (by simp) (AllReadyH.cons rfl (fun K hK => ?_) AllReadyH.nil); go_simp)
      refine (HCHK.out _ _ HCP.out _ (Kd.C_below HRP.out (below_drew1 HW.out))).mono ?_
      rintro e w4 ⟨rfl, hb0⟩
      have hb := below_drew_of hb0
      have HA4 := Aside0.mk (HA3.out.below hb)
      have HB4 := Aside0.mk (below_step HB3.out hb)
      have HRF4 := Aside0.mk (Kd.C_below HRF3.out hb)
      have HAX4 := Aside0.mk (HAX.out.below hb)
      clear hb hb0
      (refine Shut.out hK _ _ (And.intro HA4.out HAX4.out) (fun hHeld => ?_); clear hK K; (try simp only [Act.put, List.getElem_toArray, List.getElem_cons_zero, List.getElem_cons_succ, List.setIfInBounds_toArray, List.set_cons_zero, List.set_cons_succ]))
      (refine wpAnyH_take (i := 13) (v := ?_) rfl (by kernel_rfl) (by kernel_rfl) (by kernel_rfl) (fun _ _ _ h => h) (Or.inl ⟨by rfl, ?_⟩) (by assumption) ?_; (case' refine_2 => (intro w hSw; go_simp; try with_reducible rfl)); (try simp only [Act.put, List.getElem_toArray, List.getElem_cons_zero, List.getElem_cons_succ, List.setIfInBounds_toArray, List.set_cons_zero, List.set_cons_succ]))
      (refine wpAnyH_take (i := 14) (v := ?_) rfl (by kernel_rfl) (by kernel_rfl) (by kernel_rfl) (fun _ _ _ h => h) (Or.inl ⟨by rfl, ?_⟩) (by assumption) ?_; (case' refine_2 => (intro w hSw; go_simp; try with_reducible rfl)); (try simp only [Act.put, List.getElem_toArray, List.getElem_cons_zero, List.getElem_cons_succ, List.setIfInBounds_toArray, List.set_cons_zero, List.set_cons_succ]))
      refine wpAnyH_done (by kernel_rfl) ?_ _
      go_wp2_with ((with_reducible refine gate_dst (N := 51) rfl ?_); refine wpList_load_at rfl 24 (.tmp 50) rfl _ rfl X _ HAX4.out Try.underlying24 rfl HIX.out ?_)
      refine (HGROW.out _ _ HCF.out _ HRF4.out).mono ?_
      rintro e w5 ⟨v, rfl, ho, hb⟩
      have HF := Aside0.mk (show BackI w g R l (k + 1) v w5 from ⟨HA4.out.below hb, by obtain ⟨A', c', h1, h2, h3⟩ := Kd.R_reads ho; exact ⟨A', c', h1, h2, h3⟩, below_step HB4.out hb⟩)
      clear ho hb
      go_wp2_with (fail)
      go_roundw
      case rel => exact ⟨k + 1, by have := HK.out; omega, by go_num, HF.out⟩
      case measure => have := HK.out; simp [intOf]; omega
    · have hkn : k = n := by omega
      subst hkn
      have hlk : l.take k = l := List.take_of_length_le (by have := HLN.out.1; omega)
      rw [hlk] at HRF HCF
      rw [show (frontT (l.take k)).length = (frontT l).length from by rw [hlk]]
      have p3 : decide ((k : Int) < (k : Int)) = false := decide_eq_false (by omega)
      clear hlk hlt hk
      go_wp2_with (fail)
      refine (HP5.out _ _ HCF.out _ HRF.out).mono ?_
      rintro e w3 ⟨rfl, hb⟩
      have HG := Aside0.mk (show (w3.alloc (.cells Z32 24)).heap[w3.heap.size]? = some (.cells Z32 24 (0, 0)) from blk_new _ _)
      have HG2 := Aside0.mk (atC_blk (setRow_heap (w3.alloc (.cells Z32 24)) w3.heap.size Z32 R.toArray _ _ HG.out))
      have hb2 : Below w3.heap.size w3 ((w3.alloc (.cells Z32 24)).setRow w3.heap.size R.toArray) := below_setRow (below_alloc (Below.refl _ _) _) (Nat.le_refl _) _
      have HB3 := Aside0.mk (below_step (below_step HB.out hb) hb2)
      have HA3 := Aside0.mk ((HA.out.below hb).below hb2)
      have HRF3 := Aside0.mk (Kd.C_below (Kd.C_below HRF.out hb) hb2)
      clear hb hb2
      go_upto_region 16 with ((with_reducible refine gate_store (t := 24) (p := 10) (v := .tmp 63) rfl ?_); refine wpList_store_row rfl 24 (.tmp 10) (.tmp 63) rfl w3.heap.size R.toArray rfl rfl 24 Z32 HG.out HJR.out HSR.out HOR.out ?_)
      obtain ⟨w4, hw4⟩ : ∃ W, (w3.alloc (.cells Z32 24)).setRow w3.heap.size R.toArray = W := ⟨_, rfl⟩
      rw [hw4] at HG2 HB3 HA3 HRF3
      rw [show (w3.alloc (.cells #[.int .u8 0, .int .u8 0, .int .u8 0, .int .u8 0, .int .u8 0, .int .u8 0, .int .u8 0, .int .u8 0, .int .u8 0, .int .u8 0, .int .u8 0, .int .u8 0, .int .u8 0, .int .u8 0, .int .u8 0, .int .u8 0, .int .u8 0, .int .u8 0, .int .u8 0, .int .u8 0, .int .u8 0, .int .u8 0, .int .u8 0, .int .u8 0, .int .u8 0, .int .u8 0, .int .u8 0, .int .u8 0, .int .u8 0, .int .u8 0, .int .u8 0, .int .u8 0] 24)).setRow w3.heap.size R.toArray = w4 from hw4]
      clear hw4 HG
      have heq := HEQ.out
      go_wp2_with (first
        | ((with_reducible refine gate_dst (N := 67) rfl ?_); (try (refine gate_guard (by rfl) ?_; dsimp only)); refine wpList_load_at rfl 24 (.tmp 10) rfl _ rfl R _ HG2.out Try.underlying24 rfl HIR.out ?_)
        | ((with_reducible refine gate_dst (N := 68) rfl ?_); (try (refine gate_guard (by rfl) ?_; dsimp only)); refine wpList_load_at rfl 24 (.tmp 3) rfl _ rfl R _ HA3.out Try.underlying24 rfl HIR.out ?_))
      refine (HP8.out _ HB3.out).mono ?_
      rintro e w5 ⟨v, rfl, ho, hb⟩
      obtain ⟨Ah, ch, rfl, hch, hrh⟩ := Kd.R_reads ho
      have HRH := Aside0.mk hrh
      have HB5 := Aside0.mk (below_step HB3.out hb)
      have HRF5 := Aside0.mk (Kd.C_below HRF3.out hb)
      clear ho hb hch hrh
      go_wp2_with (fail)
      refine (same_c (frontT l) (frontT l) _ _ _ _ _ HRF5.out HRH.out (by have := HLN.out; omega) (by have := HLN.out; omega)).mono ?_
      rintro e w6 ⟨rfl, hb⟩
      have HB6 := Aside0.mk (below_step HB5.out hb)
      clear hb
      go_wp2_with (fail)
      refine (live26_c _).mono ?_
      rintro e w7 ⟨rfl, hb⟩
      have HB7 := Aside0.mk (below_step HB6.out hb)
      clear hb
      go_wp2_with (fail)
      go_ret
      exact ⟨rfl, HB7.out⟩
end Go.Proofs.Ytbebkogkeepfoaa.Tree
/- TreeBack: the law's walk, as the row asks for it. -/
namespace Go.Proofs.Ytbebkogkeepfoaa.Tree
set_option linter.unusedVariables false
open Go.RowKit Go.Proofs.Ytbebkogkeepfoaa.Base Go.Proofs.Ytbebkogkeepfoaa.TlvPlain Go.Proofs.Ytbebkogkeepfoaa.ShaPlain Go.Proofs.Ytbebkogkeepfoaa.Sha Go.Proofs.Ytbebkogkeepfoaa.Com Go.Proofs.Ytbebkogkeepfoaa.Aid Go.Proofs.YtbebkogkeepfoaaW.PrintWords
theorem backWalk (w : World) (A : Option Addr) (c : Nat) (l : List Sm) (hr : Rs w A l) (hc : l.length ≤ c) (ok : ∀ x ∈ l, ∀ y ∈ x, (Lit.int .u8 y).wf = true) :
    Calls Try.prog 12 #[.slice A l.length c] w fun e w' => e = .returned (.bool true) ∧ Below w.heap.size w w' := by
  by_cases h : 40 < l.length
  · exact back_long A l.length c h w
  · exact back_walk l l.length rfl (by omega) (lu_of hr ok) A c hc w hr
end Go.Proofs.Ytbebkogkeepfoaa.Tree
