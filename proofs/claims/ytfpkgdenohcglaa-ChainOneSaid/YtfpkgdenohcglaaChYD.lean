/- Own and printed texts, laid together. -/
import Derived.Test.YtfpkgdenohcglaaChYC
import Derived.Test.YtfpkgdenohcglaaChYB
/- The law's met. -/
namespace Go.Proofs.Ytfpkgdenohcglaa.Chn
set_option linter.unusedVariables false
set_option linter.unusedSimpArgs false
open Go.RowKit Go.Proofs.Ytfpkgdenohcglaa.Base Go.Proofs.Ytfpkgdenohcglaa.TlvPlain Go.Proofs.Ytfpkgdenohcglaa.ShaPlain Go.Proofs.Ytfpkgdenohcglaa.Sha Go.Proofs.Ytfpkgdenohcglaa.Com Go.Proofs.Ytfpkgdenohcglaa.Aid Go.Proofs.YtfpkgdenohcglaaW.PrintWords Go.Proofs.YtfpkgdenohcglaaW.PrintLast Go.Proofs.YtfpkgdenohcglaaW.PrintMore
attribute [local irreducible] shaB
/-- Two of these texts are unlike, and have one sum. -/
def meetB (T : List (List Int)) (a b : Nat) : Bool := decide (shaB (T.getD a []) = shaB (T.getD b [])) && !decide (T.getD a [] = T.getD b [])
set_option maxHeartbeats 8000000 in
set_option maxRecDepth 100000 in
theorem met_c (T : List (List Int)) (N : Nat) (hN : T.length = N) (hT : N ≤ 70) (hx : ∀ t ∈ T, U8 t ∧ t.length ≤ 1000) (hm : ∃ a b, b < a ∧ a < T.length ∧ meetB T a b = true) (A12 : Option Addr) (c12 : Nat) (w : World) (hr : Rr w A12 T) :
    Calls Try.prog 24 #[.slice A12 N c12] w (RetB w true) := by
  unfold RetB
  have HRR := Aside0.mk hr
  have HLT := Aside0.mk hT
  have HTX := Aside0.mk hx
  have HMET := Aside0.mk hm
  have HN := Aside0.mk hN
  have q10 : (N : Int) ≤ 70 := by omega
  have hguard := guard_32
  have hu24 := Try.underlying23
  clear hr hT hx hm hN
  go_enter Try.func24, Try.ntmps24
  go_wp2_with (fail)
  go_loopw [3, 4] (fun i _ wx => ∃ a : Nat, a ≤ N ∧ i = .int .i64 a ∧ Aside0 (∀ a' b', b' < a' → a' < a → meetB T a' b' = false) ∧ Aside0 (Below w.heap.size w wx)) (fun i _ _ => N - (intOf i).toNat)
  case atStart => exact ⟨0, Nat.zero_le _, rfl, ⟨fun _ _ _ h => absurd h (Nat.not_lt_zero _)⟩, ⟨Below.refl _ _⟩⟩
  case round =>
    obtain ⟨a, ha, rfl, HM, HW⟩ := hrel
    obtain ⟨W, hwy⟩ : ∃ wy, wy = wr := ⟨_, rfl⟩
    subst hwy
    by_cases hlt : a < N
    · have HAN := Aside0.mk hlt
      have p0 : (0 : Int) ≤ (a : Int) := by omega
      have p1 : (a : Int) < (N : Int) := by omega
      have p1' : decide ((a : Int) < (N : Int)) = true := decide_eq_true p1
      have p1n : decide (a < N) = true := decide_eq_true hlt
      clear hlt ha
      go_wp2_with (fail)
      go_loopw [4] (fun j wx => ∃ b : Nat, b ≤ a ∧ j = .int .i64 b ∧ Aside0 (∀ b', b' < b → meetB T a b' = false) ∧ Aside0 (Below w.heap.size w wx)) (fun j _ => a - (intOf j).toNat)
      case atStart => exact ⟨0, Nat.zero_le _, rfl, ⟨fun _ h => absurd h (Nat.not_lt_zero _)⟩, HW⟩
      case round =>
        clear HW
        obtain ⟨b, hb, rfl, HMb, HW⟩ := hrel
        obtain ⟨V, hvy⟩ : ∃ vy, vy = wr := ⟨_, rfl⟩
        subst hvy
        by_cases hlt : b < a
        · obtain ⟨ar, Aa, ca, rfl, hca, hla, hra⟩ := rows_at HRR.out a (by rw [HN.out]; exact HAN.out)
          obtain ⟨_, Ab, cb, he, hcb, hlb, hrb⟩ := rows_at HRR.out b (by rw [HN.out]; have := HAN.out; omega)
          injection he with he
          subst he
          have hta := HTX.out _ (List.getElem_mem (show a < T.length by rw [HN.out]; exact HAN.out))
          have htb := HTX.out _ (List.getElem_mem (show b < T.length by rw [HN.out]; have := HAN.out; omega))
          have hmm : meetB T a b = (decide (shaB (T[a]'(by rw [HN.out]; exact HAN.out)) = shaB (T[b]'(by rw [HN.out]; have := HAN.out; omega))) && !decide ((T[a]'(by rw [HN.out]; exact HAN.out)) = (T[b]'(by rw [HN.out]; have := HAN.out; omega)))) := by
            unfold meetB
            rw [List.getD_eq_getElem?_getD, List.getElem?_eq_getElem (show a < T.length by rw [HN.out]; exact HAN.out), List.getD_eq_getElem?_getD, List.getElem?_eq_getElem (show b < T.length by rw [HN.out]; have := HAN.out; omega)]
            rfl
          obtain ⟨x, hx⟩ : ∃ x, T[a]'(by rw [HN.out]; exact HAN.out) = x := ⟨_, rfl⟩
          obtain ⟨y, hy⟩ : ∃ y, T[b]'(by rw [HN.out]; have := HAN.out; omega) = y := ⟨_, rfl⟩
          rw [hx] at hca hla hra hta hmm
          rw [hy] at hcb hlb hrb htb hmm
          obtain ⟨X1, hX1⟩ := sumC (shaB x) (shaB_len _)
          obtain ⟨Y1, hY1⟩ := sumC (shaB y) (shaB_len _)
          have HO1 := Aside0.mk (fun W (hW : Below w.heap.size w W) => rof_c Aa ca x W (Kd.C_below hra hW) hla hta.1 (by have := hta.2; omega))
          have HO2 := Aside0.mk (fun W (hW : Below w.heap.size w W) => rof_c Ab cb y W (Kd.C_below hrb hW) hlb htb.1 (by have := htb.2; omega))
          have HS1 := Aside0.mk (fun W (hW : Below w.heap.size w W) => Lo.same_c Aa ca x Ab cb y W (Kd.C_below hra hW) hla (Kd.C_below hrb hW) hlb (by have := hta.2; omega))
          rw [hX1.v] at HO1
          rw [hY1.v] at HO2
          have HCA := Aside0.mk hca
          have HCB := Aside0.mk hcb
          have heq := run_eq_sum (shaB x) (shaB y) (shaB_len _) (shaB_len _)
          rw [hX1.v, hY1.v] at heq
          obtain ⟨eb, heb⟩ : ∃ eb, decide (shaB x = shaB y) = eb := ⟨_, rfl⟩
          obtain ⟨xb, hxb⟩ : ∃ xb, decide (x = y) = xb := ⟨_, rfl⟩
          rw [heb] at heq hmm
          rw [hxb] at HS1 hmm
          have HMM := Aside0.mk hmm
          have HBA := Aside0.mk hlt
          have r0 : (0 : Int) ≤ (b : Int) := by omega
          have r1 : (b : Int) < (N : Int) := by omega
          have r2 : decide ((b : Int) < (a : Int)) = true := decide_eq_true (by omega)
          have r2n : decide (b < a) = true := decide_eq_true hlt
          have r3 : (b : Int) ≤ 70 := by omega
          have HCA2 := Aside0.mk (show V.cell? (ar.add a) = some (.slice Aa x.length ca) from (HW.out.cell (World.block_lt_of_cell? _ _ hca)).trans hca)
          have HCB2 := Aside0.mk (show V.cell? (ar.add b) = some (.slice Ab y.length cb) from (HW.out.cell (World.block_lt_of_cell? _ _ hcb)).trans hcb)
          clear hca hla hra hcb hlb hrb hta htb hmm hx hy hX1 hY1 heb hxb hlt hb
          go_wp2_with (fail)
          refine wp_region_held_drew (S := fun w' => w'.cell? (ar.add a) = some (.slice Aa x.length ca) ∧ w'.cell? (ar.add b) = some (.slice Ab y.length cb)) (by kernel_rfl) (And.intro HCA2.out HCB2.out) (fun hHeld => ?_)
          (refine wpAnyH_take (i := 0) (v := ?_) rfl (by kernel_rfl) (by kernel_rfl) (by kernel_rfl) (fun _ _ _ h => h) (Or.inl ⟨by rfl, ?_⟩) (by assumption) ?_; (case' refine_2 => (intro w hSw; go_simp; try with_reducible rfl)); (try simp only [Act.put, List.getElem_toArray, List.getElem_cons_zero, List.getElem_cons_succ, List.setIfInBounds_toArray, List.set_cons_zero, List.set_cons_succ]))
          (refine wpAnyH_take (i := 1) (v := ?_) rfl (by kernel_rfl) (by kernel_rfl) (by kernel_rfl) (fun _ _ _ h => h) (Or.inl ⟨by rfl, ?_⟩) (by assumption) ?_; (case' refine_2 => (intro w hSw; go_simp; try with_reducible rfl)); (try simp only [Act.put, List.getElem_toArray, List.getElem_cons_zero, List.getElem_cons_succ, List.setIfInBounds_toArray, List.set_cons_zero, List.set_cons_succ]))
          (refine wpAnyH_take (i := 2) (v := ?_) rfl (by kernel_rfl) (by kernel_rfl) (by kernel_rfl) (fun _ _ _ h => h) (Or.inl ⟨by rfl, ?_⟩) (by assumption) ?_; (case' refine_2 => (intro w hSw; go_simp; try with_reducible rfl)); (try simp only [Act.put, List.getElem_toArray, List.getElem_cons_zero, List.getElem_cons_succ, List.setIfInBounds_toArray, List.set_cons_zero, List.set_cons_succ]))
          (refine wpAnyH_take (i := 3) (v := .slice Aa x.length ca) rfl (by kernel_rfl) (by kernel_rfl) (by kernel_rfl) (fun _ _ _ h => h) (Or.inl ⟨by rfl, ?_⟩) (by assumption) ?_; (case' refine_1 => (intro w_ hSw; have hcell_ := hSw.1; clear hSw; go_simp)); (try simp only [Act.put, List.getElem_toArray, List.getElem_cons_zero, List.getElem_cons_succ, List.setIfInBounds_toArray, List.set_cons_zero, List.set_cons_succ]))
          (refine wpAnyH_take (i := 5) (v := ?_) rfl (by kernel_rfl) (by kernel_rfl) (by kernel_rfl) (fun _ _ _ h => h) (Or.inl ⟨by rfl, ?_⟩) (by assumption) ?_; (case' refine_2 => (intro w hSw; go_simp; try with_reducible rfl)); (try simp only [Act.put, List.getElem_toArray, List.getElem_cons_zero, List.getElem_cons_succ, List.setIfInBounds_toArray, List.set_cons_zero, List.set_cons_succ]))
          (refine wpAnyH_take (i := 6) (v := ?_) rfl (by kernel_rfl) (by kernel_rfl) (by kernel_rfl) (fun _ _ _ h => h) (Or.inl ⟨by rfl, ?_⟩) (by assumption) ?_; (case' refine_2 => (intro w hSw; go_simp; try with_reducible rfl)); (try simp only [Act.put, List.getElem_toArray, List.getElem_cons_zero, List.getElem_cons_succ, List.setIfInBounds_toArray, List.set_cons_zero, List.set_cons_succ]))
          (refine wpAnyH_take (i := 7) (v := ?_) rfl (by kernel_rfl) (by kernel_rfl) (by kernel_rfl) (fun _ _ _ h => h) (Or.inl ⟨by rfl, ?_⟩) (by assumption) ?_; (case' refine_2 => (intro w hSw; go_simp; try with_reducible rfl)); (try simp only [Act.put, List.getElem_toArray, List.getElem_cons_zero, List.getElem_cons_succ, List.setIfInBounds_toArray, List.set_cons_zero, List.set_cons_succ]))
          (refine wpAnyH_take (i := 8) (v := .slice Ab y.length cb) rfl (by kernel_rfl) (by kernel_rfl) (by kernel_rfl) (fun _ _ _ h => h) (Or.inl ⟨by rfl, ?_⟩) (by assumption) ?_; (case' refine_1 => (intro w_ hSw; have hcell_ := hSw.2; clear hSw; go_simp)); (try simp only [Act.put, List.getElem_toArray, List.getElem_cons_zero, List.getElem_cons_succ, List.setIfInBounds_toArray, List.set_cons_zero, List.set_cons_succ]))
  
          (refine wpAnyH_ready (rs := [4]) (by kernel_rfl) (by simp) (AllReadyH.cons rfl (fun K hK => ?_) AllReadyH.nil); go_simp)
          refine (HO1.out _ (below_drew1 HW.out)).mono ?_
          rintro e V2 ⟨rfl, hb0⟩
          have hb := below_drew_of hb0
          have x_ := Aside0.mk (below_step HW.out hb)
          clear HW hb
          have HW := x_
          clear x_
          clear hb0
          (refine Shut.out hK _ _ (And.intro (cell_below HW.out HCA.out) (cell_below HW.out HCB.out)) (fun hHeld => ?_); clear hK K; (try simp only [Act.put, List.getElem_toArray, List.getElem_cons_zero, List.getElem_cons_succ, List.setIfInBounds_toArray, List.set_cons_zero, List.set_cons_succ]))
          (refine wpAnyH_ready (rs := [9]) (by kernel_rfl) (by simp) (AllReadyH.cons rfl (fun K hK => ?_) AllReadyH.nil); go_simp)
          refine (HO2.out _ HW.out).mono ?_
          rintro e V3 ⟨rfl, hb⟩
          have x_ := Aside0.mk (below_step HW.out hb)
          clear HW hb
          have HW := x_
          clear x_
          (refine Shut.out hK _ _ (And.intro (cell_below HW.out HCA.out) (cell_below HW.out HCB.out)) (fun hHeld => ?_); clear hK K; (try simp only [Act.put, List.getElem_toArray, List.getElem_cons_zero, List.getElem_cons_succ, List.setIfInBounds_toArray, List.set_cons_zero, List.set_cons_succ]))
          (refine wpAnyH_take (i := 10) (v := ?_) rfl (by kernel_rfl) (by kernel_rfl) (by kernel_rfl) (fun _ _ _ h => h) (Or.inl ⟨by rfl, ?_⟩) (by assumption) ?_; (case' refine_2 => (intro w hSw; go_simp; try with_reducible rfl)); (try simp only [Act.put, List.getElem_toArray, List.getElem_cons_zero, List.getElem_cons_succ, List.setIfInBounds_toArray, List.set_cons_zero, List.set_cons_succ]))
          (refine wpAnyH_take (i := 11) (v := ?_) rfl (by kernel_rfl) (by kernel_rfl) (by kernel_rfl) (fun _ _ _ h => h) (Or.inl ⟨by rfl, ?_⟩) (by assumption) ?_; (case' refine_2 => (intro w hSw; go_simp; try with_reducible rfl)); (try simp only [Act.put, List.getElem_toArray, List.getElem_cons_zero, List.getElem_cons_succ, List.setIfInBounds_toArray, List.set_cons_zero, List.set_cons_succ]))
          clear heq
          cases eb with
          | false =>
            have HMM := Aside0.mk (show meetB T a b = false from HMM.out)
            (refine wpAnyH_take (i := 12) (v := undef) rfl (by kernel_rfl) (by kernel_rfl) (by kernel_rfl) (fun _ _ _ h => h) (Or.inr ⟨by rfl, rfl⟩) (by assumption) ?_; (try simp only [Act.put, List.getElem_toArray, List.getElem_cons_zero, List.getElem_cons_succ, List.setIfInBounds_toArray, List.set_cons_zero, List.set_cons_succ]))
            (refine wpAnyH_take (i := 13) (v := undef) rfl (by kernel_rfl) (by kernel_rfl) (by kernel_rfl) (fun _ _ _ h => h) (Or.inr ⟨by rfl, rfl⟩) (by assumption) ?_; (try simp only [Act.put, List.getElem_toArray, List.getElem_cons_zero, List.getElem_cons_succ, List.setIfInBounds_toArray, List.set_cons_zero, List.set_cons_succ]))
            (refine wpAnyH_take (i := 14) (v := undef) rfl (by kernel_rfl) (by kernel_rfl) (by kernel_rfl) (fun _ _ _ h => h) (Or.inr ⟨by rfl, rfl⟩) (by assumption) ?_; (try simp only [Act.put, List.getElem_toArray, List.getElem_cons_zero, List.getElem_cons_succ, List.setIfInBounds_toArray, List.set_cons_zero, List.set_cons_succ]))
            (refine wpAnyH_take (i := 15) (v := undef) rfl (by kernel_rfl) (by kernel_rfl) (by kernel_rfl) (fun _ _ _ h => h) (Or.inr ⟨by rfl, rfl⟩) (by assumption) ?_; (try simp only [Act.put, List.getElem_toArray, List.getElem_cons_zero, List.getElem_cons_succ, List.setIfInBounds_toArray, List.set_cons_zero, List.set_cons_succ]))
            (refine wpAnyH_take (i := 16) (v := undef) rfl (by kernel_rfl) (by kernel_rfl) (by kernel_rfl) (fun _ _ _ h => h) (Or.inr ⟨by rfl, rfl⟩) (by assumption) ?_; (try simp only [Act.put, List.getElem_toArray, List.getElem_cons_zero, List.getElem_cons_succ, List.setIfInBounds_toArray, List.set_cons_zero, List.set_cons_succ]))
            (refine wpAnyH_take (i := 17) (v := undef) rfl (by kernel_rfl) (by kernel_rfl) (by kernel_rfl) (fun _ _ _ h => h) (Or.inr ⟨by rfl, rfl⟩) (by assumption) ?_; (try simp only [Act.put, List.getElem_toArray, List.getElem_cons_zero, List.getElem_cons_succ, List.setIfInBounds_toArray, List.set_cons_zero, List.set_cons_succ]))
            (refine wpAnyH_take (i := 18) (v := undef) rfl (by kernel_rfl) (by kernel_rfl) (by kernel_rfl) (fun _ _ _ h => h) (Or.inr ⟨by rfl, rfl⟩) (by assumption) ?_; (try simp only [Act.put, List.getElem_toArray, List.getElem_cons_zero, List.getElem_cons_succ, List.setIfInBounds_toArray, List.set_cons_zero, List.set_cons_succ]))
            (refine wpAnyH_take (i := 19) (v := undef) rfl (by kernel_rfl) (by kernel_rfl) (by kernel_rfl) (fun _ _ _ h => h) (Or.inr ⟨by rfl, rfl⟩) (by assumption) ?_; (try simp only [Act.put, List.getElem_toArray, List.getElem_cons_zero, List.getElem_cons_succ, List.setIfInBounds_toArray, List.set_cons_zero, List.set_cons_succ]))
            (refine wpAnyH_take (i := 20) (v := undef) rfl (by kernel_rfl) (by kernel_rfl) (by kernel_rfl) (fun _ _ _ h => h) (Or.inr ⟨by rfl, rfl⟩) (by assumption) ?_; (try simp only [Act.put, List.getElem_toArray, List.getElem_cons_zero, List.getElem_cons_succ, List.setIfInBounds_toArray, List.set_cons_zero, List.set_cons_succ]))
            (refine wpAnyH_take (i := 21) (v := undef) rfl (by kernel_rfl) (by kernel_rfl) (by kernel_rfl) (fun _ _ _ h => h) (Or.inr ⟨by rfl, rfl⟩) (by assumption) ?_; (try simp only [Act.put, List.getElem_toArray, List.getElem_cons_zero, List.getElem_cons_succ, List.setIfInBounds_toArray, List.set_cons_zero, List.set_cons_succ]))
            (refine wpAnyH_take (i := 22) (v := ?_) rfl (by kernel_rfl) (by kernel_rfl) (by kernel_rfl) (fun _ _ _ h => h) (Or.inl ⟨by rfl, ?_⟩) (by assumption) ?_; (case' refine_2 => (intro w hSw; go_simp; try with_reducible rfl)); (try simp only [Act.put, List.getElem_toArray, List.getElem_cons_zero, List.getElem_cons_succ, List.setIfInBounds_toArray, List.set_cons_zero, List.set_cons_succ]))
            refine wpAnyH_done (by kernel_rfl) ?_ _
            go_wp2_with (fail)
            go_roundw
            case rel => exact ⟨b + 1, by have := HBA.out; omega, by go_num, ⟨fun b' hb' => by
              rcases Nat.lt_succ_iff_lt_or_eq.1 hb' with h | h
              · exact HMb.out b' h
              · rw [h]; exact HMM.out⟩, ⟨HW.out⟩⟩
            case measure => have := HBA.out; simp [intOf]; omega
          | true =>
            (refine wpAnyH_take (i := 12) (v := ?_) rfl (by kernel_rfl) (by kernel_rfl) (by kernel_rfl) (fun _ _ _ h => h) (Or.inl ⟨by rfl, ?_⟩) (by assumption) ?_; (case' refine_2 => (intro w hSw; go_simp; try with_reducible rfl)); (try simp only [Act.put, List.getElem_toArray, List.getElem_cons_zero, List.getElem_cons_succ, List.setIfInBounds_toArray, List.set_cons_zero, List.set_cons_succ]))
            (refine wpAnyH_take (i := 13) (v := ?_) rfl (by kernel_rfl) (by kernel_rfl) (by kernel_rfl) (fun _ _ _ h => h) (Or.inl ⟨by rfl, ?_⟩) (by assumption) ?_; (case' refine_2 => (intro w hSw; go_simp; try with_reducible rfl)); (try simp only [Act.put, List.getElem_toArray, List.getElem_cons_zero, List.getElem_cons_succ, List.setIfInBounds_toArray, List.set_cons_zero, List.set_cons_succ]))
            (refine wpAnyH_take (i := 14) (v := ?_) rfl (by kernel_rfl) (by kernel_rfl) (by kernel_rfl) (fun _ _ _ h => h) (Or.inl ⟨by rfl, ?_⟩) (by assumption) ?_; (case' refine_2 => (intro w hSw; go_simp; try with_reducible rfl)); (try simp only [Act.put, List.getElem_toArray, List.getElem_cons_zero, List.getElem_cons_succ, List.setIfInBounds_toArray, List.set_cons_zero, List.set_cons_succ]))
            (refine wpAnyH_take (i := 15) (v := .slice Aa x.length ca) rfl (by kernel_rfl) (by kernel_rfl) (by kernel_rfl) (fun _ _ _ h => h) (Or.inl ⟨by rfl, ?_⟩) (by assumption) ?_; (case' refine_1 => (intro w_ hSw; have hcell_ := hSw.1; clear hSw; go_simp)); (try simp only [Act.put, List.getElem_toArray, List.getElem_cons_zero, List.getElem_cons_succ, List.setIfInBounds_toArray, List.set_cons_zero, List.set_cons_succ]))
            (refine wpAnyH_take (i := 16) (v := ?_) rfl (by kernel_rfl) (by kernel_rfl) (by kernel_rfl) (fun _ _ _ h => h) (Or.inl ⟨by rfl, ?_⟩) (by assumption) ?_; (case' refine_2 => (intro w hSw; go_simp; try with_reducible rfl)); (try simp only [Act.put, List.getElem_toArray, List.getElem_cons_zero, List.getElem_cons_succ, List.setIfInBounds_toArray, List.set_cons_zero, List.set_cons_succ]))
            (refine wpAnyH_take (i := 17) (v := ?_) rfl (by kernel_rfl) (by kernel_rfl) (by kernel_rfl) (fun _ _ _ h => h) (Or.inl ⟨by rfl, ?_⟩) (by assumption) ?_; (case' refine_2 => (intro w hSw; go_simp; try with_reducible rfl)); (try simp only [Act.put, List.getElem_toArray, List.getElem_cons_zero, List.getElem_cons_succ, List.setIfInBounds_toArray, List.set_cons_zero, List.set_cons_succ]))
            (refine wpAnyH_take (i := 18) (v := ?_) rfl (by kernel_rfl) (by kernel_rfl) (by kernel_rfl) (fun _ _ _ h => h) (Or.inl ⟨by rfl, ?_⟩) (by assumption) ?_; (case' refine_2 => (intro w hSw; go_simp; try with_reducible rfl)); (try simp only [Act.put, List.getElem_toArray, List.getElem_cons_zero, List.getElem_cons_succ, List.setIfInBounds_toArray, List.set_cons_zero, List.set_cons_succ]))
            (refine wpAnyH_take (i := 19) (v := .slice Ab y.length cb) rfl (by kernel_rfl) (by kernel_rfl) (by kernel_rfl) (fun _ _ _ h => h) (Or.inl ⟨by rfl, ?_⟩) (by assumption) ?_; (case' refine_1 => (intro w_ hSw; have hcell_ := hSw.2; clear hSw; go_simp)); (try simp only [Act.put, List.getElem_toArray, List.getElem_cons_zero, List.getElem_cons_succ, List.setIfInBounds_toArray, List.set_cons_zero, List.set_cons_succ]))
            (refine wpAnyH_ready (rs := [20]) (by kernel_rfl) (by simp) (AllReadyH.cons rfl (fun K hK => ?_) AllReadyH.nil); go_simp)
            refine (HS1.out _ HW.out).mono ?_
            rintro e V4 ⟨rfl, hd⟩
            have hb := Drawn0.below hd
            have x_ := Aside0.mk (below_step HW.out hb)
            clear HW hb
            have HW := x_
            clear x_
            clear hd
            (refine Shut.out hK _ _ (And.intro (cell_below HW.out HCA.out) (cell_below HW.out HCB.out)) (fun hHeld => ?_); clear hK K; (try simp only [Act.put, List.getElem_toArray, List.getElem_cons_zero, List.getElem_cons_succ, List.setIfInBounds_toArray, List.set_cons_zero, List.set_cons_succ]))
            (refine wpAnyH_take (i := 21) (v := ?_) rfl (by kernel_rfl) (by kernel_rfl) (by kernel_rfl) (fun _ _ _ h => h) (Or.inl ⟨by rfl, ?_⟩) (by assumption) ?_; (case' refine_2 => (intro w hSw; go_simp; try with_reducible rfl)); (try simp only [Act.put, List.getElem_toArray, List.getElem_cons_zero, List.getElem_cons_succ, List.setIfInBounds_toArray, List.set_cons_zero, List.set_cons_succ]))
            (refine wpAnyH_take (i := 22) (v := ?_) rfl (by kernel_rfl) (by kernel_rfl) (by kernel_rfl) (fun _ _ _ h => h) (Or.inl ⟨by rfl, ?_⟩) (by assumption) ?_; (case' refine_2 => (intro w hSw; go_simp; try with_reducible rfl)); (try simp only [Act.put, List.getElem_toArray, List.getElem_cons_zero, List.getElem_cons_succ, List.setIfInBounds_toArray, List.set_cons_zero, List.set_cons_succ]))
            cases xb with
            | true =>
              have HMM := Aside0.mk (show meetB T a b = false from HMM.out)
              refine wpAnyH_done (by kernel_rfl) ?_ _
              go_wp2_with (fail)
              go_roundw
              case rel => exact ⟨b + 1, by have := HBA.out; omega, by go_num, ⟨fun b' hb' => by
                rcases Nat.lt_succ_iff_lt_or_eq.1 hb' with h | h
                · exact HMb.out b' h
                · rw [h]; exact HMM.out⟩, ⟨HW.out⟩⟩
              case measure => have := HBA.out; simp [intOf]; omega
            | false =>
              refine wpAnyH_done (by kernel_rfl) ?_ _
              go_wp2_with (fail)
              go_ret
              exact ⟨rfl, HW.out⟩
        · have hba : b = a := by omega
          subst hba
          have r2 : decide ((b : Int) < (b : Int)) = false := decide_eq_false (by omega)
          have p3 : (b : Int) ≤ 70 := by omega
          clear hlt hb
          go_wp2_with (fail)
          go_roundw
          case rel => exact ⟨b + 1, by have := HAN.out; omega, by go_num, ⟨fun a' b' h1 h2 => by
            rcases Nat.lt_succ_iff_lt_or_eq.1 h2 with h | h
            · exact HM.out a' b' h1 h
            · rw [h]; exact HMb.out b' (by omega)⟩, ⟨HW.out⟩⟩
          case measure => have := HAN.out; simp [intOf]; omega
    · exfalso
      obtain ⟨a', b', h1, h2, h3⟩ := HMET.out
      rw [HM.out a' b' h1 (by rw [HN.out] at h2; omega)] at h3
      cases h3
end Go.Proofs.Ytfpkgdenohcglaa.Chn
/- The law ChainOne walked. -/
namespace Go.Proofs.Ytfpkgdenohcglaa.Chn
set_option linter.unusedVariables false
set_option linter.unusedSimpArgs false
open Go.RowKit Go.Proofs.Ytfpkgdenohcglaa.Base Go.Proofs.Ytfpkgdenohcglaa.TlvPlain Go.Proofs.Ytfpkgdenohcglaa.ShaPlain Go.Proofs.Ytfpkgdenohcglaa.Sha Go.Proofs.Ytfpkgdenohcglaa.Com Go.Proofs.Ytfpkgdenohcglaa.Aid Go.Proofs.YtfpkgdenohcglaaW.PrintWords Go.Proofs.YtfpkgdenohcglaaW.PrintLast Go.Proofs.YtfpkgdenohcglaaW.PrintMore
attribute [local irreducible] shaB
theorem meet_of {T : List (List Int)} (h : ∃ s ∈ T, ∃ t ∈ T, s ≠ t ∧ shaB s = shaB t) : ∃ a b, b < a ∧ a < T.length ∧ meetB T a b = true := by
  obtain ⟨s, hs, t, ht, hne, he⟩ := h
  obtain ⟨i, hi, rfl⟩ := List.mem_iff_getElem.1 hs
  obtain ⟨k, hk, rfl⟩ := List.mem_iff_getElem.1 ht
  have gi : T.getD i [] = T[i] := by rw [List.getD_eq_getElem?_getD, List.getElem?_eq_getElem hi]; rfl
  have gk : T.getD k [] = T[k] := by rw [List.getD_eq_getElem?_getD, List.getElem?_eq_getElem hk]; rfl
  rcases Nat.lt_trichotomy k i with h | h | h
  · refine ⟨i, k, h, hi, ?_⟩
    unfold meetB
    rw [gi, gk, decide_eq_true he, decide_eq_false hne]
    rfl
  · subst h
    exact absurd rfl hne
  · refine ⟨k, i, h, hk, ?_⟩
    unfold meetB
    rw [gi, gk, decide_eq_true he.symm, decide_eq_false (Ne.symm hne)]
    rfl
theorem verT_yes {l : List Ent} {h : Sm} {n : Int} {i : Int} (hv : verT l h n = (i, true)) : badT l 0 Z = none ∧ (l.length : Int) = n ∧ headT l = h := by
  unfold verT at hv
  cases hb : badT l 0 Z with
  | some i => rw [hb] at hv; simp at hv
  | none =>
    rw [hb] at hv
    simp only [Prod.mk.injEq, Bool.and_eq_true, decide_eq_true_eq] at hv
    exact ⟨rfl, hv.2.1, hv.2.2⟩
theorem one_meet (a b : List Ent) (m : Nat) (ham : a.length = m) (i1 i2 : Int) (ha : verT a (headT a) (m : Int) = (i1, true)) (hb : verT b (headT a) (m : Int) = (i2, true)) (hu : Lu' a) (hv : Lu' b)
    (sa : ∀ x ∈ a, (payE x).length ≤ 300) (sb : ∀ x ∈ b, (payE x).length ≤ 300) (j : Nat) (h1 : j < a.length) (h2 : j < b.length) (h : sameE a[j] b[j] = false) :
    ∃ i k, k < i ∧ i < (textsC a ++ textsC b).length ∧ meetB (textsC a ++ textsC b) i k = true := by
  refine meet_of (Classical.byContradiction fun hno => ?_)
  obtain ⟨b1, l1, g1⟩ := verT_yes ha
  obtain ⟨b2, l2, g2⟩ := verT_yes hb
  have h3 := one_plain a b (by omega) b1 b2 g2.symm hu hv (fun x hx => Nat.le_trans (sa x hx) (by decide)) (fun x hx => Nat.le_trans (sb x hx) (by decide))
    (fun s hs t ht he => Classical.byContradiction fun hne => hno ⟨s, hs, t, ht, hne, he⟩) j h1 h2
  rw [h] at h3
  cases h3
theorem texts_u {l : List Ent} (hu : Lu' l) (hs : ∀ x ∈ l, (payE x).length ≤ 300) : ∀ t ∈ textsC l, U8 t ∧ t.length ≤ 1000 := by
  intro t ht
  obtain ⟨x, hx, h⟩ := List.mem_flatMap.1 ht
  have e := hu x hx
  have hl := hs x hx
  unfold textsE at h
  rcases List.mem_cons.1 h with h | h
  · rw [h]
    exact ⟨linkB_u8 e.pu e.cu, Nat.le_trans (linkB_len e.pl e.cl) (by decide)⟩
  · split at h
    · cases h
    · rw [List.mem_singleton.1 h]
      exact ⟨comB_u8 e.s1 e.u (by omega), Nat.le_trans (comB_len e.s1 (by omega)) (by omega)⟩
set_option maxHeartbeats 16000000 in
set_option maxRecDepth 100000 in
theorem one_few (a b : List Ent) (m n : Nat) (hl : a.length = m) (hl2 : b.length = n) (hm : m ≤ 9223372036854775807) (hn : n ≤ 9223372036854775807) (A A' : Option Addr) (c c' : Nat) (w : World) (hr : Re w A a) (hr2 : Re w A' b) (h : fewT a = false ∨ fewT b = false) :
    Calls Try.prog 4 #[.slice A m c, .slice A' n c'] w (RetB w true) := by
  have HFA := Aside0.mk (fun V (hV : Below w.heap.size w V) => few_c a m hl hm A c V (Kd.C_below hr hV))
  have HFB := Aside0.mk (fun V (hV : Below w.heap.size w V) => few_c b n hl2 hn A' c' V (Kd.C_below hr2 hV))
  unfold RetB at HFA HFB ⊢
  have HB := Aside0.mk (Below.refl w.heap.size w)
  obtain ⟨fa, hfa⟩ : ∃ v, fewT a = v := ⟨_, rfl⟩
  obtain ⟨fb, hfb⟩ : ∃ v, fewT b = v := ⟨_, rfl⟩
  rw [hfa] at HFA h
  rw [hfb] at HFB h
  clear hr hr2 hl hl2 hfa hfb
  go_enter Try.func4, Try.ntmps4
  go_wp2_with (fail)
  refine (HFA.out _ HB.out).mono ?_
  rintro e w1 ⟨rfl, hb⟩
  have HB1 := Aside0.mk (below_step HB.out hb)
  clear hb
  cases fa with
  | false =>
    clear h
    go_wp2_with (fail)
    refine (live24_c _).mono ?_
    rintro e w2 ⟨rfl, hb⟩
    have HB2 := Aside0.mk (below_step HB1.out hb)
    clear hb
    go_wp2_with (fail)
    go_ret
    exact ⟨rfl, HB2.out⟩
  | true =>
    have h2 : fb = false := by rcases h with h | h; cases h; exact h
    subst h2
    clear h
    go_wp2_with (fail)
    refine (HFB.out _ HB1.out).mono ?_
    rintro e w2 ⟨rfl, hb⟩
    have HB2 := Aside0.mk (below_step HB1.out hb)
    clear hb
    go_wp2_with (fail)
    refine (live24_c _).mono ?_
    rintro e w3 ⟨rfl, hb⟩
    have HB3 := Aside0.mk (below_step HB2.out hb)
    clear hb
    go_wp2_with (fail)
    go_ret
    exact ⟨rfl, HB3.out⟩
set_option maxHeartbeats 16000000 in
set_option maxRecDepth 100000 in
theorem one_ver (a b : List Ent) (m n : Nat) (hl : a.length = m) (hl2 : b.length = n) (hm : m ≤ 12) (hn : n ≤ 12) (hu : Lu' a) (hv : Lu' b) (sa : ∀ x ∈ a, (payE x).length ≤ 300) (sb : ∀ x ∈ b, (payE x).length ≤ 300) (fa : fewT a = true) (fb : fewT b = true) (A A' : Option Addr) (c c' : Nat) (hc : m ≤ c) (hc2 : n ≤ c') (w : World) (hr : Re w A a) (hr2 : Re w A' b) (i1 i2 : Int) (b1 b2 : Bool) (va : verT a (headT a) (m : Int) = (i1, b1)) (vb : verT b (headT a) (m : Int) = (i2, b2)) (h : b1 = false ∨ b2 = false) : Calls Try.prog 4 #[.slice A m c, .slice A' n c'] w (RetB w true) := by
  have HFA := Aside0.mk (fun V (hV : Below w.heap.size w V) => few_c a m hl (by omega) A c V (Kd.C_below hr hV))
  have HFB := Aside0.mk (fun V (hV : Below w.heap.size w V) => few_c b n hl2 (by omega) A' c' V (Kd.C_below hr2 hV))
  unfold RetB at HFA HFB ⊢
  have HB := Aside0.mk (Below.refl w.heap.size w)
  rw [fa] at HFA
  rw [fb] at HFB
  obtain ⟨D, hD⟩ := sumC (headT a) (headT_len _)
  have HHD := Aside0.mk (fun V (hV : Below w.heap.size w V) => head_c a m hl (by omega) hu A c V (Kd.C_below hr hV))
  have HVA := Aside0.mk (fun V (hV : Below w.heap.size w V) => verify_c a m hl (by omega) hu (fun y hy => Nat.le_trans (sa y hy) (by decide)) (headT a) (headT_len _) (m : Int) A c V (Kd.C_below hr hV))
  have HVB := Aside0.mk (fun V (hV : Below w.heap.size w V) => verify_c b n hl2 (by omega) hv (fun y hy => Nat.le_trans (sb y hy) (by decide)) (headT a) (headT_len _) (m : Int) A' c' V (Kd.C_below hr2 hV))
  unfold Ret at HHD
  unfold RetIB at HVA HVB
  rw [hD.v] at HHD HVA HVB
  rw [va] at HVA
  rw [vb] at HVB
  have HD := Aside0.mk hD
  have HID := Aside0.mk hD.blk
  clear hr hr2 hl hl2 hm hn hu hv sa sb fa fb hc hc2 va vb hD
  go_enter Try.func4, Try.ntmps4
  go_wp2_with (fail)
  refine (HFA.out _ HB.out).mono ?_
  rintro e w1 ⟨rfl, hb⟩
  have HB1 := Aside0.mk (below_step HB.out hb)
  clear hb
  go_wp2_with (fail)
  refine (HFB.out _ HB1.out).mono ?_
  rintro e w2 ⟨rfl, hb⟩
  have HB2 := Aside0.mk (below_step HB1.out hb)
  clear hb
  go_wp2_with (fail)
  refine (HHD.out _ HB2.out).mono ?_
  rintro e w3 ⟨rfl, hb⟩
  have HB3 := Aside0.mk (below_step HB2.out hb)
  clear hb
  have HY := Aside0.mk (show (w3.alloc (.cells Z32 23)).heap[w3.heap.size]? = some (.cells Z32 23 (0, 0)) from blk_new _ _)
  have HG4 := Aside0.mk (atC_blk (setRow_heap (w3.alloc (.cells Z32 23)) w3.heap.size Z32 D.toArray _ _ HY.out))
  have HB4 := Aside0.mk (show Below w.heap.size w ((w3.alloc (.cells Z32 23)).setRow w3.heap.size D.toArray) from below_setRow (below_alloc HB3.out _) HB3.out.size _)
  go_upto_region 4 with ((with_reducible refine gate_store (t := 23) (p := 5) (v := .tmp 24) rfl ?_); refine wpList_store_row rfl 23 (.tmp 5) (.tmp 24) rfl w3.heap.size D.toArray rfl rfl 23 Z32 HY.out HD.out.blkA HD.out.zsA HD.out.oneA ?_)
  obtain ⟨w4, hw4⟩ : ∃ V, (w3.alloc (.cells Z32 23)).setRow w3.heap.size D.toArray = V := ⟨_, rfl⟩
  rw [hw4] at HG4 HB4
  rw [show (w3.alloc (.cells #[.int .u8 0, .int .u8 0, .int .u8 0, .int .u8 0, .int .u8 0, .int .u8 0, .int .u8 0, .int .u8 0, .int .u8 0, .int .u8 0, .int .u8 0, .int .u8 0, .int .u8 0, .int .u8 0, .int .u8 0, .int .u8 0, .int .u8 0, .int .u8 0, .int .u8 0, .int .u8 0, .int .u8 0, .int .u8 0, .int .u8 0, .int .u8 0, .int .u8 0, .int .u8 0, .int .u8 0, .int .u8 0, .int .u8 0, .int .u8 0, .int .u8 0, .int .u8 0] 23)).setRow w3.heap.size D.toArray = w4 from hw4]
  obtain ⟨g5, hg5⟩ : ∃ g, w3.heap.size = g := ⟨_, rfl⟩
  rw [hg5] at HG4 ⊢
  clear hw4 hg5 HY
  go_wp2_with ((with_reducible refine gate_dst (N := 27) rfl ?_); refine wpList_load_at rfl 23 (.tmp 5) rfl ⟨g5, 0, none⟩ rfl D _ HG4.out Try.underlying23 rfl HID.out ?_)
  refine (HVA.out _ HB4.out).mono ?_
  rintro e w5 ⟨rfl, hb⟩
  have HB5 := Aside0.mk (below_step HB4.out hb)
  have HG5 := Aside0.mk (HG4.out.below hb)
  clear hb
  go_wp2_with ((with_reducible refine gate_dst (N := 35) rfl ?_); refine wpList_load_at rfl 23 (.tmp 5) rfl ⟨g5, 0, none⟩ rfl D _ HG5.out Try.underlying23 rfl HID.out ?_)
  refine (HVB.out _ HB5.out).mono ?_
  rintro e w6 ⟨rfl, hb⟩
  have HB6 := Aside0.mk (below_step HB5.out hb)
  clear hb
  cases b1 with
  | false =>
    clear h
    go_wp2_with (fail)
    refine (live24_c _).mono ?_
    rintro e w7 ⟨rfl, hb⟩
    have HB7 := Aside0.mk (below_step HB6.out hb)
    clear hb
    go_wp2_with (fail)
    go_ret
    exact ⟨rfl, HB7.out⟩
  | true =>
    have h2 : b2 = false := by
      rcases h with h | h
      · cases h
      · exact h
    subst h2
    clear h
    go_wp2_with (fail)
    refine (live24_c _).mono ?_
    rintro e w7 ⟨rfl, hb⟩
    have HB7 := Aside0.mk (below_step HB6.out hb)
    clear hb
    go_wp2_with (fail)
    go_ret
    exact ⟨rfl, HB7.out⟩
structure OneI (a b : List Ent) (m k : Nat) (sm : Bool) : Prop where
  yes : sm = true → True
  no : sm = false → ∃ j, j < m ∧ ∃ x y, a[j]? = some x ∧ b[j]? = some y ∧ sameE x y = false
theorem OneI.next {a b : List Ent} {m k : Nat} (h : OneI a b m k true) (hk : k < m) {x y : Ent} (hx : a[k]? = some x) (hy : b[k]? = some y) {r : Bool} (hr : sameE x y = r) : OneI a b m (k + 1) r :=
  ⟨fun _ => trivial, fun hf => ⟨k, hk, x, y, hx, hy, by rw [hr, hf]⟩⟩
theorem len_eq {b : List Ent} {h : Sm} {m n : Nat} {i2 : Int} (hl2 : b.length = n) (vb : verT b h (m : Int) = (i2, true)) : n = m := by
  obtain ⟨_, h1, _⟩ := verT_yes vb
  omega
set_option maxHeartbeats 16000000 in
set_option maxRecDepth 100000 in
theorem one_main (a b : List Ent) (m : Nat) (hl : a.length = m) (hl2 : b.length = m) (hm : m ≤ 12) (hu : Lu' a) (hv : Lu' b) (sa : ∀ x ∈ a, (payE x).length ≤ 300) (sb : ∀ x ∈ b, (payE x).length ≤ 300) (fa : fewT a = true) (fb : fewT b = true) (A A' : Option Addr) (c c' : Nat) (hc : m ≤ c) (hc2 : m ≤ c') (w : World) (hr : Re w A a) (hr2 : Re w A' b) (i1 i2 : Int) (va : verT a (headT a) (m : Int) = (i1, true)) (vb : verT b (headT a) (m : Int) = (i2, true)) : Calls Try.prog 4 #[.slice A m c, .slice A' m c'] w (RetB w true) := by
  have HFA := Aside0.mk (fun V (hV : Below w.heap.size w V) => few_c a m hl (by omega) A c V (Kd.C_below hr hV))
  have HFB := Aside0.mk (fun V (hV : Below w.heap.size w V) => few_c b m hl2 (by omega) A' c' V (Kd.C_below hr2 hV))
  unfold RetB at HFA HFB ⊢
  have HB := Aside0.mk (Below.refl w.heap.size w)
  rw [fa] at HFA
  rw [fb] at HFB
  obtain ⟨D, hD⟩ := sumC (headT a) (headT_len _)
  have HHD := Aside0.mk (fun V (hV : Below w.heap.size w V) => head_c a m hl (by omega) hu A c V (Kd.C_below hr hV))
  have HVA := Aside0.mk (fun V (hV : Below w.heap.size w V) => verify_c a m hl (by omega) hu (fun y hy => Nat.le_trans (sa y hy) (by decide)) (headT a) (headT_len _) (m : Int) A c V (Kd.C_below hr hV))
  have HVB := Aside0.mk (fun V (hV : Below w.heap.size w V) => verify_c b m hl2 (by omega) hv (fun y hy => Nat.le_trans (sb y hy) (by decide)) (headT a) (headT_len _) (m : Int) A' c' V (Kd.C_below hr2 hV))
  unfold Ret at HHD
  unfold RetIB at HVA HVB
  rw [hD.v] at HHD HVA HVB
  rw [va] at HVA
  rw [vb] at HVB
  have HD := Aside0.mk hD
  have HID := Aside0.mk hD.blk
  have HMEET := Aside0.mk (fun j h1 h2 h => one_meet a b m hl i1 i2 va vb hu hv sa sb j h1 h2 h)
  have HTA := Aside0.mk (fun V (hV : Below w.heap.size w V) => texts_c a m hl (by omega) hu (fun y hy => Nat.le_trans (sa y hy) (by decide)) A c V (Kd.C_below hr hV))
  have HTB := Aside0.mk (fun V (hV : Below w.heap.size w V) => texts_c b m hl2 (by omega) hv (fun y hy => Nat.le_trans (sb y hy) (by decide)) A' c' V (Kd.C_below hr2 hV))
  unfold RetN at HTA HTB
  have HTU := Aside0.mk (show ∀ t ∈ textsC a ++ textsC b, U8 t ∧ t.length ≤ 1000 from fun t ht => by
    rcases List.mem_append.1 ht with h | h
    · exact texts_u hu sa t h
    · exact texts_u hv sb t h)
  have HLN := Aside0.mk (show (textsC a ++ textsC b).length ≤ 70 from by rw [List.length_append]; have h1 := textsC_len a; have h2 := textsC_len b; omega)
  obtain ⟨T, hTT⟩ : ∃ T, textsC a ++ textsC b = T := ⟨_, rfl⟩
  rw [hTT] at HMEET HTU HLN
  obtain ⟨N, hNN⟩ : ∃ N, T.length = N := ⟨_, rfl⟩
  have HTT := Aside0.mk hTT
  have HNN := Aside0.mk hNN
  rw [hNN] at HLN
  clear hTT hNN
  have HM := Aside0.mk hl
  have HM2 := Aside0.mk hl2
  have H0 := Aside0.mk hr
  have H1 := Aside0.mk hr2
  have HS := Aside0.mk (And.intro (fun y hy => Nat.le_trans (sa y hy) (show 300 ≤ 1000000 by decide)) (And.intro hu hv))
  have q9 : (m : Int) ≤ 12 := by omega
  have q8 : ((m : Int) == (m : Int)) = true := by simp
  clear hr hr2 hl hl2 hm hu hv sa sb fa fb hc hc2 va vb hD
  go_enter Try.func4, Try.ntmps4
  go_wp2_with (fail)
  refine (HFA.out _ HB.out).mono ?_
  rintro e w1 ⟨rfl, hb⟩
  have HB1 := Aside0.mk (below_step HB.out hb)
  clear hb
  go_wp2_with (fail)
  refine (HFB.out _ HB1.out).mono ?_
  rintro e w2 ⟨rfl, hb⟩
  have HB2 := Aside0.mk (below_step HB1.out hb)
  clear hb
  go_wp2_with (fail)
  refine (HHD.out _ HB2.out).mono ?_
  rintro e w3 ⟨rfl, hb⟩
  have HB3 := Aside0.mk (below_step HB2.out hb)
  clear hb
  have HY := Aside0.mk (show (w3.alloc (.cells Z32 23)).heap[w3.heap.size]? = some (.cells Z32 23 (0, 0)) from blk_new _ _)
  have HG4 := Aside0.mk (atC_blk (setRow_heap (w3.alloc (.cells Z32 23)) w3.heap.size Z32 D.toArray _ _ HY.out))
  have HB4 := Aside0.mk (show Below w.heap.size w ((w3.alloc (.cells Z32 23)).setRow w3.heap.size D.toArray) from below_setRow (below_alloc HB3.out _) HB3.out.size _)
  go_upto_region 4 with ((with_reducible refine gate_store (t := 23) (p := 5) (v := .tmp 24) rfl ?_); refine wpList_store_row rfl 23 (.tmp 5) (.tmp 24) rfl w3.heap.size D.toArray rfl rfl 23 Z32 HY.out HD.out.blkA HD.out.zsA HD.out.oneA ?_)
  obtain ⟨w4, hw4⟩ : ∃ V, (w3.alloc (.cells Z32 23)).setRow w3.heap.size D.toArray = V := ⟨_, rfl⟩
  rw [hw4] at HG4 HB4
  rw [show (w3.alloc (.cells #[.int .u8 0, .int .u8 0, .int .u8 0, .int .u8 0, .int .u8 0, .int .u8 0, .int .u8 0, .int .u8 0, .int .u8 0, .int .u8 0, .int .u8 0, .int .u8 0, .int .u8 0, .int .u8 0, .int .u8 0, .int .u8 0, .int .u8 0, .int .u8 0, .int .u8 0, .int .u8 0, .int .u8 0, .int .u8 0, .int .u8 0, .int .u8 0, .int .u8 0, .int .u8 0, .int .u8 0, .int .u8 0, .int .u8 0, .int .u8 0, .int .u8 0, .int .u8 0] 23)).setRow w3.heap.size D.toArray = w4 from hw4]
  obtain ⟨g5, hg5⟩ : ∃ g, w3.heap.size = g := ⟨_, rfl⟩
  rw [hg5] at HG4 ⊢
  clear hw4 hg5 HY
  go_wp2_with ((with_reducible refine gate_dst (N := 27) rfl ?_); refine wpList_load_at rfl 23 (.tmp 5) rfl ⟨g5, 0, none⟩ rfl D _ HG4.out Try.underlying23 rfl HID.out ?_)
  refine (HVA.out _ HB4.out).mono ?_
  rintro e w5 ⟨rfl, hb⟩
  have HB5 := Aside0.mk (below_step HB4.out hb)
  have HG5 := Aside0.mk (HG4.out.below hb)
  clear hb
  go_wp2_with ((with_reducible refine gate_dst (N := 35) rfl ?_); refine wpList_load_at rfl 23 (.tmp 5) rfl ⟨g5, 0, none⟩ rfl D _ HG5.out Try.underlying23 rfl HID.out ?_)
  refine (HVB.out _ HB5.out).mono ?_
  rintro e w6 ⟨rfl, hb⟩
  have HB6 := Aside0.mk (below_step HB5.out hb)
  clear hb
  go_wp2_with (fail)
  clear q8
  go_loopw [10, 11, 12, 13] (fun sv iv _ _ wx => ∃ (k : Nat) (sm : Bool), k ≤ m ∧ sv = .bool sm ∧ iv = .int .i64 k ∧ Aside0 (OneI a b m k sm) ∧ Below w.heap.size w wx) (fun _ iv _ _ _ => m - (intOf iv).toNat)
  case atStart => exact ⟨0, true, Nat.zero_le _, rfl, rfl, ⟨⟨fun _ => trivial, fun h => by cases h⟩⟩, HB6.out⟩
  case round =>
    clear HB6 HG5 HG4 HB5 HB4 HB3 HB2 HB1
    obtain ⟨k, sm, hk, rfl, rfl, HOI, hb⟩ := hrel
    have HB := Aside0.mk hb
    clear hb
    obtain ⟨W, hwy⟩ : ∃ wy, wy = wr := ⟨_, rfl⟩
    subst hwy
    cases sm with
    | false =>
      have HB7 := HB
      by_cases hlt : k < m
      · have d1 : decide ((k : Int) < (m : Int)) = true := decide_eq_true (by omega)
        have d2 : decide (k < m) = true := decide_eq_true hlt
        clear hlt hk
        have HMT := Aside0.mk (show ∃ i k, k < i ∧ i < T.length ∧ meetB T i k = true from by
          obtain ⟨j, hj, x, y, h1, h2, h3⟩ := HOI.out.no rfl
          obtain ⟨g1, rfl⟩ := List.getElem?_eq_some_iff.1 h1
          obtain ⟨g2, rfl⟩ := List.getElem?_eq_some_iff.1 h2
          exact HMEET.out j g1 g2 h3)
        go_wp2_with (fail)
        refine (HTA.out _ HB7.out).mono ?_
        rintro e w8 ⟨v8, rfl, ho, hb⟩
        have HB8 := Aside0.mk (below_step HB7.out hb)
        have HO8 := Aside0.mk (Kd.R_lower ho HB7.out.size)
        clear ho hb
        go_wp2_with (fail)
        refine (HTB.out _ HB8.out).mono ?_
        rintro e w9 ⟨v9, rfl, ho, hb⟩
        have HB9 := Aside0.mk (below_step HB8.out hb)
        have HP9 := Aside0.mk (Kd.R_lower ho HB8.out.size)
        have HO9 := Aside0.mk (Kd.R_below HO8.out hb)
        clear ho hb
        go_wp2_with ((with_reducible refine gate_builtin (b := .append) (xs := #[.tmp 114, .tmp 116]) rfl ?_); (try (refine gate_guard (by rfl) ?_; dsimp only)); at_builtin; refine ot_append (w0 := w) w.heap.size rfl (.tmp 114) (.tmp 116) rfl v8 v9 (textsC a) (textsC b) rfl rfl HO9.out HP9.out HB9.out HB9.out.size (by have := HLN.out; rw [← HNN.out, ← HTT.out, List.length_append] at this; omega) ?_; intro v10 w10 ho hb hg; rw [HTT.out] at ho; obtain ⟨A10, c10, rfl, hc10, hr10⟩ := Kd.R_reads ho; have HR10 := Aside0.mk (show Rr w10 A10 T from hr10); rw [HNN.out]; have HB10 := Aside0.mk hb; clear ho hb hg hc10 hr10)
        refine (met_c T N HNN.out HLN.out HTU.out HMT.out A10 c10 w10 HR10.out).mono ?_
        rintro e w11 ⟨rfl, hb⟩
        have HB11 := Aside0.mk (below_step HB10.out hb)
        clear hb
        go_wp2_with (fail)
        refine (live24_c _).mono ?_
        rintro e w20 ⟨rfl, hb⟩
        have HB20 := Aside0.mk (below_step HB11.out hb)
        clear hb
        go_wp2_with (fail)
        go_ret
        exact ⟨rfl, HB20.out⟩
      · have d1 : decide ((k : Int) < (m : Int)) = false := decide_eq_false (by omega)
        have d2 : decide (k < m) = false := decide_eq_false hlt
        clear hlt hk
        have HMT := Aside0.mk (show ∃ i k, k < i ∧ i < T.length ∧ meetB T i k = true from by
          obtain ⟨j, hj, x, y, h1, h2, h3⟩ := HOI.out.no rfl
          obtain ⟨g1, rfl⟩ := List.getElem?_eq_some_iff.1 h1
          obtain ⟨g2, rfl⟩ := List.getElem?_eq_some_iff.1 h2
          exact HMEET.out j g1 g2 h3)
        go_wp2_with (fail)
        refine (HTA.out _ HB7.out).mono ?_
        rintro e w8 ⟨v8, rfl, ho, hb⟩
        have HB8 := Aside0.mk (below_step HB7.out hb)
        have HO8 := Aside0.mk (Kd.R_lower ho HB7.out.size)
        clear ho hb
        go_wp2_with (fail)
        refine (HTB.out _ HB8.out).mono ?_
        rintro e w9 ⟨v9, rfl, ho, hb⟩
        have HB9 := Aside0.mk (below_step HB8.out hb)
        have HP9 := Aside0.mk (Kd.R_lower ho HB8.out.size)
        have HO9 := Aside0.mk (Kd.R_below HO8.out hb)
        clear ho hb
        go_wp2_with ((with_reducible refine gate_builtin (b := .append) (xs := #[.tmp 114, .tmp 116]) rfl ?_); (try (refine gate_guard (by rfl) ?_; dsimp only)); at_builtin; refine ot_append (w0 := w) w.heap.size rfl (.tmp 114) (.tmp 116) rfl v8 v9 (textsC a) (textsC b) rfl rfl HO9.out HP9.out HB9.out HB9.out.size (by have := HLN.out; rw [← HNN.out, ← HTT.out, List.length_append] at this; omega) ?_; intro v10 w10 ho hb hg; rw [HTT.out] at ho; obtain ⟨A10, c10, rfl, hc10, hr10⟩ := Kd.R_reads ho; have HR10 := Aside0.mk (show Rr w10 A10 T from hr10); rw [HNN.out]; have HB10 := Aside0.mk hb; clear ho hb hg hc10 hr10)
        refine (met_c T N HNN.out HLN.out HTU.out HMT.out A10 c10 w10 HR10.out).mono ?_
        rintro e w11 ⟨rfl, hb⟩
        have HB11 := Aside0.mk (below_step HB10.out hb)
        clear hb
        go_wp2_with (fail)
        refine (live24_c _).mono ?_
        rintro e w20 ⟨rfl, hb⟩
        have HB20 := Aside0.mk (below_step HB11.out hb)
        clear hb
        go_wp2_with (fail)
        go_ret
        exact ⟨rfl, HB20.out⟩
    | true =>
      by_cases hlt : k < m
      · have d1 : decide ((k : Int) < (m : Int)) = true := decide_eq_true (by omega)
        have d2 : decide (k < m) = true := decide_eq_true hlt
        have hka : k < a.length := by have := HM.out; omega
        have hkb : k < b.length := by have := HM2.out; omega
        obtain ⟨ad0, P, C, B, cb, rfl, hat, hC⟩ := re_at H0.out k hka
        obtain ⟨ad1, P', C', B', cb', rfl, hat', hC'⟩ := re_at H1.out k hkb
        have hEx := HS.out.2.1 _ (List.getElem_mem hka)
        have hEy := HS.out.2.2 _ (List.getElem_mem hkb)
        have hpl := HS.out.1 _ (List.getElem_mem hka)
        have hgx : a[k]? = some a[k] := List.getElem?_eq_getElem hka
        have hgy : b[k]? = some b[k] := List.getElem?_eq_getElem hkb
        obtain ⟨x, hxx⟩ : ∃ x, a[k] = x := ⟨_, rfl⟩
        obtain ⟨y, hyy⟩ : ∃ y, b[k] = y := ⟨_, rfl⟩
        rw [hxx] at hat hC hEx hpl hgx
        rw [hyy] at hat' hC' hEy hgy
        have HNX := Aside0.mk (fun (r : Bool) (h : sameE x y = r) => show OneI a b m (k + 1) r from HOI.out.next (by have := HM.out; omega) hgx hgy h)
        have HSM := Aside0.mk (fun V (hV : Below w.heap.size w V) => Lo.same_c B cb (payE x) B' cb' (payE y) V (Kd.C_below hC.r hV) hC.hc (Kd.C_below hC'.r hV) hC'.hc (by omega))
        have HP := Aside0.mk (run_eq_sum (prevE x) (prevE y) hEx.pl hEy.pl)
        have HC := Aside0.mk (run_eq_sum (comE x) (comE y) hEx.cl hEy.cl)
        rw [hC.fp.v, hC'.fp.v] at HP
        rw [hC.fc.v, hC'.fc.v] at HC
        have HI := Aside0.mk (And.intro hC.fp.blk (And.intro hC.fc.blk (And.intro hC'.fp.blk hC'.fc.blk)))
        obtain ⟨bp, hbp⟩ : ∃ v, decide (prevE x = prevE y) = v := ⟨_, rfl⟩
        obtain ⟨bc, hbc⟩ : ∃ v, decide (comE x = comE y) = v := ⟨_, rfl⟩
        obtain ⟨by_, hby⟩ : ∃ v, decide (payE x = payE y) = v := ⟨_, rfl⟩
        rw [hbp] at HP
        rw [hbc] at HC
        rw [hby] at HSM
        have HBP := Aside0.mk hbp
        have HBC := Aside0.mk hbc
        have HBY := Aside0.mk hby
        have HMK := Aside0.mk (fun (V : World) (g6 g7 : Nat) (h6 : V.heap[g6]? = some (.cells (cE x P C B cb).toArray 27 (0, 0))) (h7 : V.heap[g7]? = some (.cells (cE y P' C' B' cb').toArray 27 (0, 0))) =>
          And.intro (entAt_blk hC.fp.lenC hC.fc.lenC h6) (entAt_blk hC'.fp.lenC hC'.fc.lenC h7))
        have HIX := Aside0.mk (show (Try.prog.info? 27).map (·.size) = some (cE x P C B cb).toArray.size from by rw [List.size_toArray]; exact hC.info)
        have HIY := Aside0.mk (show (Try.prog.info? 27).map (·.size) = some (cE y P' C' B' cb').toArray.size from by rw [List.size_toArray]; exact hC'.info)
        have HIXL := Aside0.mk hC.info
        have HIYL := Aside0.mk hC'.info
        have HOX := Aside0.mk hC.one
        have HOY := Aside0.mk hC'.one
        have HXL := Aside0.mk hC.len
        have HYL := Aside0.mk hC'.len
        have HALL := Aside0.mk (fun V (hV : Below W.heap.size W V) => show AtC V (ad0.add (k * 68)) (cE x P C B cb) ∧ AtC V (ad1.add (k * 68)) (cE y P' C' B' cb') from And.intro ((hat.below HB.out).below hV) ((hat'.below HB.out).below hV))
        obtain ⟨X, hX⟩ : ∃ X, cE x P C B cb = X := ⟨_, rfl⟩
        obtain ⟨Y, hY⟩ : ∃ Y, cE y P' C' B' cb' = Y := ⟨_, rfl⟩
        rw [hX] at HMK HIX HIXL HOX HXL HALL
        rw [hY] at HMK HIY HIYL HOY HYL HALL
        have hk0 : (0 : Int) ≤ (k : Int) := by omega
        have hk1 : (k : Int) < (m : Int) := by omega
        have hguard := guard_32
        have hu24 := Try.underlying23
        have hu27 := Try.underlying27
        have HK := Aside0.mk hlt
        clear hat hat' hC hC' hEx hEy hpl hgx hgy hxx hyy hbp hbc hby hX hY hlt hk hka hkb
        go_wp2_with (fail)
        refine wp_region_held_drew (S := fun w' => AtC w' (ad0.add (k * 68)) X ∧ AtC w' (ad1.add (k * 68)) Y) (by kernel_rfl) (HALL.out _ (below_drew1 (Below.refl _ _))) (fun hHeld => ?_)
        (refine wpAnyH_take (i := 0) (v := ?_) rfl (by kernel_rfl) (by kernel_rfl) (by kernel_rfl) (fun _ _ _ h => h) (Or.inl ⟨by rfl, ?_⟩) (by assumption) ?_; (case' refine_2 => (intro w hSw; go_simp; try with_reducible rfl)); (try simp only [Act.put, List.getElem_toArray, List.getElem_cons_zero, List.getElem_cons_succ, List.setIfInBounds_toArray, List.set_cons_zero, List.set_cons_succ]))
        (refine wpAnyH_take (i := 1) (v := ?_) rfl (by kernel_rfl) (by kernel_rfl) (by kernel_rfl) (fun _ _ _ h => h) (Or.inl ⟨by rfl, ?_⟩) (by assumption) ?_; (case' refine_2 => (intro w hSw; go_simp; try with_reducible rfl)); (try simp only [Act.put, List.getElem_toArray, List.getElem_cons_zero, List.getElem_cons_succ, List.setIfInBounds_toArray, List.set_cons_zero, List.set_cons_succ]))
        (refine wpAnyH_take (i := 2) (v := ?_) rfl (by kernel_rfl) (by kernel_rfl) (by kernel_rfl) (fun _ _ _ h => h) (Or.inl ⟨by rfl, ?_⟩) (by assumption) ?_; (case' refine_2 => (intro w hSw; go_simp; try with_reducible rfl)); (try simp only [Act.put, List.getElem_toArray, List.getElem_cons_zero, List.getElem_cons_succ, List.setIfInBounds_toArray, List.set_cons_zero, List.set_cons_succ]))
        (refine wpAnyH_take (i := 3) rfl (by kernel_rfl) (by kernel_rfl) (by kernel_rfl) (fun _ _ _ h => h) (yieldsIf_load_at (by rfl) _ _ rfl (ad0.add (k * 68)) rfl X _ (fun _ h => h.1) (by assumption) rfl HIXL.out) (by assumption) ?_; (try simp only [Act.put, List.getElem_toArray, List.getElem_cons_zero, List.getElem_cons_succ, List.setIfInBounds_toArray, List.set_cons_zero, List.set_cons_succ]))
        (refine wpAnyH_take (i := 4) (v := ?_) rfl (by kernel_rfl) (by kernel_rfl) (by kernel_rfl) (fun _ _ _ h => h) (Or.inl ⟨by rfl, ?_⟩) (by assumption) ?_; (case' refine_2 => (intro w hSw; go_simp; try with_reducible rfl)); (try simp only [Act.put, List.getElem_toArray, List.getElem_cons_zero, List.getElem_cons_succ, List.setIfInBounds_toArray, List.set_cons_zero, List.set_cons_succ]))
        (refine wpAnyH_take (i := 5) (v := ?_) rfl (by kernel_rfl) (by kernel_rfl) (by kernel_rfl) (fun _ _ _ h => h) (Or.inl ⟨by rfl, ?_⟩) (by assumption) ?_; (case' refine_2 => (intro w hSw; go_simp; try with_reducible rfl)); (try simp only [Act.put, List.getElem_toArray, List.getElem_cons_zero, List.getElem_cons_succ, List.setIfInBounds_toArray, List.set_cons_zero, List.set_cons_succ]))
        (refine wpAnyH_take (i := 6) (v := ?_) rfl (by kernel_rfl) (by kernel_rfl) (by kernel_rfl) (fun _ _ _ h => h) (Or.inl ⟨by rfl, ?_⟩) (by assumption) ?_; (case' refine_2 => (intro w hSw; go_simp; try with_reducible rfl)); (try simp only [Act.put, List.getElem_toArray, List.getElem_cons_zero, List.getElem_cons_succ, List.setIfInBounds_toArray, List.set_cons_zero, List.set_cons_succ]))
        (refine wpAnyH_take (i := 7) rfl (by kernel_rfl) (by kernel_rfl) (by kernel_rfl) (fun _ _ _ h => h) (yieldsIf_load_at (by rfl) _ _ rfl (ad1.add (k * 68)) rfl Y _ (fun _ h => h.2) (by assumption) rfl HIYL.out) (by assumption) ?_; (try simp only [Act.put, List.getElem_toArray, List.getElem_cons_zero, List.getElem_cons_succ, List.setIfInBounds_toArray, List.set_cons_zero, List.set_cons_succ]))
        refine wpAnyH_ready (rs := [8, 9]) (by kernel_rfl) (by simp) (AllReadyH.cons rfl (fun K hK => ?_) (AllReadyH.cons rfl (fun K hK => ?_) AllReadyH.nil))
        · rw [if_pos (by rfl)]
          refine wp_alloc_e rfl ?_
          have HBa := Aside0.mk (below_alloc (below_drew1 (Below.refl W.heap.size W)) (.cells zE.toArray 27))
          (refine Shut.out hK _ _ (HALL.out _ HBa.out) (fun hHeld => ?_); clear hK K; (try simp only [Act.put, List.getElem_toArray, List.getElem_cons_zero, List.getElem_cons_succ, List.setIfInBounds_toArray, List.set_cons_zero, List.set_cons_succ]))
          refine wpAnyH_ready (rs := [9]) (by kernel_rfl) (by simp) (AllReadyH.cons rfl (fun K hK => ?_) AllReadyH.nil)
          rw [if_pos (by rfl)]
          refine wp_alloc_e rfl ?_
          have HBb := Aside0.mk (below_alloc HBa.out (.cells zE.toArray 27))
          have HYa := Aside0.mk (show (((W.drew.alloc (.cells zE.toArray 27)).alloc (.cells zE.toArray 27))).heap[W.drew.heap.size]? = some (.cells zE.toArray 27 (0, 0)) from blk_alloc (blk_new _ _) _)
          have HYb := Aside0.mk (show (((W.drew.alloc (.cells zE.toArray 27)).alloc (.cells zE.toArray 27))).heap[(W.drew.alloc (.cells zE.toArray 27)).heap.size]? = some (.cells zE.toArray 27 (0, 0)) from blk_new _ _)
          have HNab := Aside0.mk (show W.drew.heap.size ≠ (W.drew.alloc (.cells zE.toArray 27)).heap.size from by simp [World.alloc])
          have HGa := Aside0.mk (show W.heap.size ≤ W.drew.heap.size from Nat.le_refl _)
          have HGb := Aside0.mk (show W.heap.size ≤ (W.drew.alloc (.cells zE.toArray 27)).heap.size from by simp [World.alloc])
          obtain ⟨w2, hw2⟩ : ∃ V, ((W.drew.alloc (.cells zE.toArray 27)).alloc (.cells zE.toArray 27)) = V := ⟨_, rfl⟩
          obtain ⟨g6, hg6⟩ : ∃ g, W.drew.heap.size = g := ⟨_, rfl⟩
          obtain ⟨g7, hg7⟩ : ∃ g, (W.drew.alloc (.cells zE.toArray 27)).heap.size = g := ⟨_, rfl⟩
          rw [hw2] at HBb HYa HYb ⊢
          rw [hg6] at HYa HNab HGa ⊢
          rw [hg7] at HYb HNab HGb ⊢
          have HN67 := Aside0.mk (show g7 ≠ g6 from HNab.out.symm)
          clear hw2 hg6 hg7 HNab
          (refine Shut.out hK _ _ (HALL.out _ HBb.out) (fun hHeld => ?_); clear hK K; (try simp only [Act.put, List.getElem_toArray, List.getElem_cons_zero, List.getElem_cons_succ, List.setIfInBounds_toArray, List.set_cons_zero, List.set_cons_succ]))
          refine wpAnyH_ready (rs := [10]) (by kernel_rfl) (by simp) (AllReadyH.cons rfl (fun K hK => ?_) AllReadyH.nil)
          rw [if_pos (by rfl)]
          refine wp_store_row 27 (.tmp 12) (.tmp 65) rfl g6 X.toArray rfl rfl 27 zE.toArray HYa.out HIX.out (by rw [List.size_toArray, List.size_toArray, zE_len, HXL.out]) HOX.out ?_
          have HBc := Aside0.mk (below_setRow HBb.out HGa.out X.toArray)
          have HYc := Aside0.mk ((setRow_other w2 g6 g7 X.toArray HN67.out).trans HYb.out)
          have HXc := Aside0.mk (setRow_heap w2 g6 zE.toArray X.toArray _ _ HYa.out)
          obtain ⟨w3, hw3⟩ : ∃ V, w2.setRow g6 X.toArray = V := ⟨_, rfl⟩
          rw [hw3] at HBc HYc HXc ⊢
          clear hw3
          (refine Shut.out hK _ _ (HALL.out _ HBc.out) (fun hHeld => ?_); clear hK K; (try simp only [Act.put, List.getElem_toArray, List.getElem_cons_zero, List.getElem_cons_succ, List.setIfInBounds_toArray, List.set_cons_zero, List.set_cons_succ]))
          refine wpAnyH_ready (rs := [11]) (by kernel_rfl) (by simp) (AllReadyH.cons rfl (fun K hK => ?_) AllReadyH.nil)
          rw [if_pos (by rfl)]
          refine wp_store_row 27 (.tmp 13) (.tmp 69) rfl g7 Y.toArray rfl rfl 27 zE.toArray HYc.out HIY.out (by rw [List.size_toArray, List.size_toArray, zE_len, HYL.out]) HOY.out ?_
          have HBd := Aside0.mk (below_setRow HBc.out HGb.out Y.toArray)
          have HXd := Aside0.mk ((setRow_other w3 g7 g6 Y.toArray HN67.out.symm).trans HXc.out)
          have HYd := Aside0.mk (setRow_heap w3 g7 zE.toArray Y.toArray _ _ HYc.out)
          obtain ⟨w4, hw4⟩ : ∃ V, w3.setRow g7 Y.toArray = V := ⟨_, rfl⟩
          rw [hw4] at HBd HYd HXd ⊢
          clear hw4
          (refine Shut.out hK _ _ (HALL.out _ HBd.out) (fun hHeld => ?_); clear hK K; (try simp only [Act.put, List.getElem_toArray, List.getElem_cons_zero, List.getElem_cons_succ, List.setIfInBounds_toArray, List.set_cons_zero, List.set_cons_succ]))
          refine wpAnyH_done (by kernel_rfl) ?_ _
          have HE := Aside0.mk (HMK.out w4 g6 g7 HXd.out HYd.out)
          have HB4 := Aside0.mk (below_step HB.out HBd.out)
          have hs1 := HE.out.1.s
          have hs2 := HE.out.1.sl
          have hs3 := HE.out.1.py
          have hs4 := HE.out.1.r
          have ht1 := HE.out.2.s
          have ht2 := HE.out.2.sl
          have ht3 := HE.out.2.py
          have ht4 := HE.out.2.r
          obtain ⟨s1, es1⟩ : ∃ v, seqE x = v := ⟨_, rfl⟩
          obtain ⟨t1, et1⟩ : ∃ v, seqE y = v := ⟨_, rfl⟩
          obtain ⟨s2, es2⟩ : ∃ v, saltE x = v := ⟨_, rfl⟩
          obtain ⟨t2, et2⟩ : ∃ v, saltE y = v := ⟨_, rfl⟩
          obtain ⟨s4, es4⟩ : ∃ v, redE x = v := ⟨_, rfl⟩
          obtain ⟨t4, et4⟩ : ∃ v, redE y = v := ⟨_, rfl⟩
          rw [es1] at hs1
          rw [et1] at ht1
          rw [es2] at hs2
          rw [et2] at ht2
          rw [es4] at hs4
          rw [et4] at ht4
          have HSE := Aside0.mk (show sameE x y = (decide (s1 = t1) && (bp && (bc && ((s4 || t4) || (decide (s2 = t2) && by_))))) from by unfold sameE; rw [es1, et1, es2, et2, es4, et4, HBP.out, HBC.out, HBY.out])
          clear es1 et1 es2 et2 es4 et4
          by_cases c1 : s1 = t1
          · have r1 : (s1 == t1) = true := by simp [c1]
            rw [decide_eq_true c1, Bool.true_and] at HSE
            clear c1
            have hp := HP.out
            have hq := HC.out
            cases bp with
            | false =>
              clear hq
              go_wp2_with (first
                | ((with_reducible refine gate_dst (N := 77) rfl ?_); (try (refine gate_guard (by rfl) ?_; dsimp only)); refine wpList_load_at rfl 23 (.tmp 76) rfl _ rfl P _ HE.out.1.fp Try.underlying23 rfl HI.out.1 ?_)
                | ((with_reducible refine gate_dst (N := 79) rfl ?_); (try (refine gate_guard (by rfl) ?_; dsimp only)); refine wpList_load_at rfl 23 (.tmp 78) rfl _ rfl P' _ HE.out.2.fp Try.underlying23 rfl HI.out.2.2.1 ?_)
                | ((with_reducible refine gate_dst (N := 84) rfl ?_); (try (refine gate_guard (by rfl) ?_; dsimp only)); refine wpList_load_at rfl 23 (.tmp 83) rfl _ rfl C _ HE.out.1.fc Try.underlying23 rfl HI.out.2.1 ?_)
                | ((with_reducible refine gate_dst (N := 86) rfl ?_); (try (refine gate_guard (by rfl) ?_; dsimp only)); refine wpList_load_at rfl 23 (.tmp 85) rfl _ rfl C' _ HE.out.2.fc Try.underlying23 rfl HI.out.2.2.2 ?_)
                | (go_at_call 23; refine (HSM.out _ HB4.out).mono ?_; rintro e w9 ⟨rfl, hd⟩; have HB9 := Aside0.mk (below_step HB4.out (Drawn0.below hd)); clear hd))
              go_roundw
              case rel => exact ⟨k + 1, false, by have := HK.out; omega, rfl, by go_num, ⟨HNX.out false (by rw [HSE.out]; first | done | rfl)⟩, HB4.out⟩
              case measure => have := HK.out; simp [intOf]; omega
            | true =>
              cases bc with
              | false =>
                go_wp2_with (first
                  | ((with_reducible refine gate_dst (N := 77) rfl ?_); (try (refine gate_guard (by rfl) ?_; dsimp only)); refine wpList_load_at rfl 23 (.tmp 76) rfl _ rfl P _ HE.out.1.fp Try.underlying23 rfl HI.out.1 ?_)
                  | ((with_reducible refine gate_dst (N := 79) rfl ?_); (try (refine gate_guard (by rfl) ?_; dsimp only)); refine wpList_load_at rfl 23 (.tmp 78) rfl _ rfl P' _ HE.out.2.fp Try.underlying23 rfl HI.out.2.2.1 ?_)
                  | ((with_reducible refine gate_dst (N := 84) rfl ?_); (try (refine gate_guard (by rfl) ?_; dsimp only)); refine wpList_load_at rfl 23 (.tmp 83) rfl _ rfl C _ HE.out.1.fc Try.underlying23 rfl HI.out.2.1 ?_)
                  | ((with_reducible refine gate_dst (N := 86) rfl ?_); (try (refine gate_guard (by rfl) ?_; dsimp only)); refine wpList_load_at rfl 23 (.tmp 85) rfl _ rfl C' _ HE.out.2.fc Try.underlying23 rfl HI.out.2.2.2 ?_)
                  | (go_at_call 23; refine (HSM.out _ HB4.out).mono ?_; rintro e w9 ⟨rfl, hd⟩; have HB9 := Aside0.mk (below_step HB4.out (Drawn0.below hd)); clear hd))
                go_roundw
                case rel => exact ⟨k + 1, false, by have := HK.out; omega, rfl, by go_num, ⟨HNX.out false (by rw [HSE.out]; first | done | rfl)⟩, HB4.out⟩
                case measure => have := HK.out; simp [intOf]; omega
              | true =>
                cases s4 with
                | true =>
                  go_wp2_with (first
                    | ((with_reducible refine gate_dst (N := 77) rfl ?_); (try (refine gate_guard (by rfl) ?_; dsimp only)); refine wpList_load_at rfl 23 (.tmp 76) rfl _ rfl P _ HE.out.1.fp Try.underlying23 rfl HI.out.1 ?_)
                    | ((with_reducible refine gate_dst (N := 79) rfl ?_); (try (refine gate_guard (by rfl) ?_; dsimp only)); refine wpList_load_at rfl 23 (.tmp 78) rfl _ rfl P' _ HE.out.2.fp Try.underlying23 rfl HI.out.2.2.1 ?_)
                    | ((with_reducible refine gate_dst (N := 84) rfl ?_); (try (refine gate_guard (by rfl) ?_; dsimp only)); refine wpList_load_at rfl 23 (.tmp 83) rfl _ rfl C _ HE.out.1.fc Try.underlying23 rfl HI.out.2.1 ?_)
                    | ((with_reducible refine gate_dst (N := 86) rfl ?_); (try (refine gate_guard (by rfl) ?_; dsimp only)); refine wpList_load_at rfl 23 (.tmp 85) rfl _ rfl C' _ HE.out.2.fc Try.underlying23 rfl HI.out.2.2.2 ?_)
                    | (go_at_call 23; refine (HSM.out _ HB4.out).mono ?_; rintro e w9 ⟨rfl, hd⟩; have HB9 := Aside0.mk (below_step HB4.out (Drawn0.below hd)); clear hd))
                  go_roundw
                  case rel => exact ⟨k + 1, true, by have := HK.out; omega, rfl, by go_num, ⟨HNX.out true (by rw [HSE.out]; first | done | rfl)⟩, HB4.out⟩
                  case measure => have := HK.out; simp [intOf]; omega
                | false =>
                  cases t4 with
                  | true =>
                    go_wp2_with (first
                      | ((with_reducible refine gate_dst (N := 77) rfl ?_); (try (refine gate_guard (by rfl) ?_; dsimp only)); refine wpList_load_at rfl 23 (.tmp 76) rfl _ rfl P _ HE.out.1.fp Try.underlying23 rfl HI.out.1 ?_)
                      | ((with_reducible refine gate_dst (N := 79) rfl ?_); (try (refine gate_guard (by rfl) ?_; dsimp only)); refine wpList_load_at rfl 23 (.tmp 78) rfl _ rfl P' _ HE.out.2.fp Try.underlying23 rfl HI.out.2.2.1 ?_)
                      | ((with_reducible refine gate_dst (N := 84) rfl ?_); (try (refine gate_guard (by rfl) ?_; dsimp only)); refine wpList_load_at rfl 23 (.tmp 83) rfl _ rfl C _ HE.out.1.fc Try.underlying23 rfl HI.out.2.1 ?_)
                      | ((with_reducible refine gate_dst (N := 86) rfl ?_); (try (refine gate_guard (by rfl) ?_; dsimp only)); refine wpList_load_at rfl 23 (.tmp 85) rfl _ rfl C' _ HE.out.2.fc Try.underlying23 rfl HI.out.2.2.2 ?_)
                      | (go_at_call 23; refine (HSM.out _ HB4.out).mono ?_; rintro e w9 ⟨rfl, hd⟩; have HB9 := Aside0.mk (below_step HB4.out (Drawn0.below hd)); clear hd))
                    go_roundw
                    case rel => exact ⟨k + 1, true, by have := HK.out; omega, rfl, by go_num, ⟨HNX.out true (by rw [HSE.out]; first | done | rfl)⟩, HB4.out⟩
                    case measure => have := HK.out; simp [intOf]; omega
                  | false =>
                    by_cases c2 : s2 = t2
                    · have r2 : (s2 == t2) = true := by simp [c2]
                      rw [decide_eq_true c2, Bool.true_and] at HSE
                      clear c2
                      cases by_ with
                      | false =>
                        go_wp2_with (first
                          | ((with_reducible refine gate_dst (N := 77) rfl ?_); (try (refine gate_guard (by rfl) ?_; dsimp only)); refine wpList_load_at rfl 23 (.tmp 76) rfl _ rfl P _ HE.out.1.fp Try.underlying23 rfl HI.out.1 ?_)
                          | ((with_reducible refine gate_dst (N := 79) rfl ?_); (try (refine gate_guard (by rfl) ?_; dsimp only)); refine wpList_load_at rfl 23 (.tmp 78) rfl _ rfl P' _ HE.out.2.fp Try.underlying23 rfl HI.out.2.2.1 ?_)
                          | ((with_reducible refine gate_dst (N := 84) rfl ?_); (try (refine gate_guard (by rfl) ?_; dsimp only)); refine wpList_load_at rfl 23 (.tmp 83) rfl _ rfl C _ HE.out.1.fc Try.underlying23 rfl HI.out.2.1 ?_)
                          | ((with_reducible refine gate_dst (N := 86) rfl ?_); (try (refine gate_guard (by rfl) ?_; dsimp only)); refine wpList_load_at rfl 23 (.tmp 85) rfl _ rfl C' _ HE.out.2.fc Try.underlying23 rfl HI.out.2.2.2 ?_)
                          | (go_at_call 23; refine (HSM.out _ HB4.out).mono ?_; rintro e w9 ⟨rfl, hd⟩; have HB9 := Aside0.mk (below_step HB4.out (Drawn0.below hd)); clear hd))
                        go_roundw
                        case rel => exact ⟨k + 1, false, by have := HK.out; omega, rfl, by go_num, ⟨HNX.out false (by rw [HSE.out]; first | done | rfl)⟩, HB9.out⟩
                        case measure => have := HK.out; simp [intOf]; omega
                      | true =>
                        go_wp2_with (first
                          | ((with_reducible refine gate_dst (N := 77) rfl ?_); (try (refine gate_guard (by rfl) ?_; dsimp only)); refine wpList_load_at rfl 23 (.tmp 76) rfl _ rfl P _ HE.out.1.fp Try.underlying23 rfl HI.out.1 ?_)
                          | ((with_reducible refine gate_dst (N := 79) rfl ?_); (try (refine gate_guard (by rfl) ?_; dsimp only)); refine wpList_load_at rfl 23 (.tmp 78) rfl _ rfl P' _ HE.out.2.fp Try.underlying23 rfl HI.out.2.2.1 ?_)
                          | ((with_reducible refine gate_dst (N := 84) rfl ?_); (try (refine gate_guard (by rfl) ?_; dsimp only)); refine wpList_load_at rfl 23 (.tmp 83) rfl _ rfl C _ HE.out.1.fc Try.underlying23 rfl HI.out.2.1 ?_)
                          | ((with_reducible refine gate_dst (N := 86) rfl ?_); (try (refine gate_guard (by rfl) ?_; dsimp only)); refine wpList_load_at rfl 23 (.tmp 85) rfl _ rfl C' _ HE.out.2.fc Try.underlying23 rfl HI.out.2.2.2 ?_)
                          | (go_at_call 23; refine (HSM.out _ HB4.out).mono ?_; rintro e w9 ⟨rfl, hd⟩; have HB9 := Aside0.mk (below_step HB4.out (Drawn0.below hd)); clear hd))
                        go_roundw
                        case rel => exact ⟨k + 1, true, by have := HK.out; omega, rfl, by go_num, ⟨HNX.out true (by rw [HSE.out]; first | done | rfl)⟩, HB9.out⟩
                        case measure => have := HK.out; simp [intOf]; omega
                    · have r2 : (s2 == t2) = false := by simp [c2]
                      rw [decide_eq_false c2, Bool.false_and] at HSE
                      clear c2
                      go_wp2_with (first
                        | ((with_reducible refine gate_dst (N := 77) rfl ?_); (try (refine gate_guard (by rfl) ?_; dsimp only)); refine wpList_load_at rfl 23 (.tmp 76) rfl _ rfl P _ HE.out.1.fp Try.underlying23 rfl HI.out.1 ?_)
                        | ((with_reducible refine gate_dst (N := 79) rfl ?_); (try (refine gate_guard (by rfl) ?_; dsimp only)); refine wpList_load_at rfl 23 (.tmp 78) rfl _ rfl P' _ HE.out.2.fp Try.underlying23 rfl HI.out.2.2.1 ?_)
                        | ((with_reducible refine gate_dst (N := 84) rfl ?_); (try (refine gate_guard (by rfl) ?_; dsimp only)); refine wpList_load_at rfl 23 (.tmp 83) rfl _ rfl C _ HE.out.1.fc Try.underlying23 rfl HI.out.2.1 ?_)
                        | ((with_reducible refine gate_dst (N := 86) rfl ?_); (try (refine gate_guard (by rfl) ?_; dsimp only)); refine wpList_load_at rfl 23 (.tmp 85) rfl _ rfl C' _ HE.out.2.fc Try.underlying23 rfl HI.out.2.2.2 ?_)
                        | (go_at_call 23; refine (HSM.out _ HB4.out).mono ?_; rintro e w9 ⟨rfl, hd⟩; have HB9 := Aside0.mk (below_step HB4.out (Drawn0.below hd)); clear hd))
                      go_roundw
                      case rel => exact ⟨k + 1, false, by have := HK.out; omega, rfl, by go_num, ⟨HNX.out false (by rw [HSE.out]; first | done | rfl)⟩, HB4.out⟩
                      case measure => have := HK.out; simp [intOf]; omega
          · have r1 : (s1 == t1) = false := by simp [c1]
            rw [decide_eq_false c1, Bool.false_and] at HSE
            clear c1
            go_wp2_with (first
              | ((with_reducible refine gate_dst (N := 77) rfl ?_); (try (refine gate_guard (by rfl) ?_; dsimp only)); refine wpList_load_at rfl 23 (.tmp 76) rfl _ rfl P _ HE.out.1.fp Try.underlying23 rfl HI.out.1 ?_)
              | ((with_reducible refine gate_dst (N := 79) rfl ?_); (try (refine gate_guard (by rfl) ?_; dsimp only)); refine wpList_load_at rfl 23 (.tmp 78) rfl _ rfl P' _ HE.out.2.fp Try.underlying23 rfl HI.out.2.2.1 ?_)
              | ((with_reducible refine gate_dst (N := 84) rfl ?_); (try (refine gate_guard (by rfl) ?_; dsimp only)); refine wpList_load_at rfl 23 (.tmp 83) rfl _ rfl C _ HE.out.1.fc Try.underlying23 rfl HI.out.2.1 ?_)
              | ((with_reducible refine gate_dst (N := 86) rfl ?_); (try (refine gate_guard (by rfl) ?_; dsimp only)); refine wpList_load_at rfl 23 (.tmp 85) rfl _ rfl C' _ HE.out.2.fc Try.underlying23 rfl HI.out.2.2.2 ?_)
              | (go_at_call 23; refine (HSM.out _ HB4.out).mono ?_; rintro e w9 ⟨rfl, hd⟩; have HB9 := Aside0.mk (below_step HB4.out (Drawn0.below hd)); clear hd))
            go_roundw
            case rel => exact ⟨k + 1, false, by have := HK.out; omega, rfl, by go_num, ⟨HNX.out false (by rw [HSE.out]; first | done | rfl)⟩, HB4.out⟩
            case measure => have := HK.out; simp [intOf]; omega
        · rw [if_pos (by rfl)]
          refine wp_alloc_e rfl ?_
          have HBa := Aside0.mk (below_alloc (below_drew1 (Below.refl W.heap.size W)) (.cells zE.toArray 27))
          (refine Shut.out hK _ _ (HALL.out _ HBa.out) (fun hHeld => ?_); clear hK K; (try simp only [Act.put, List.getElem_toArray, List.getElem_cons_zero, List.getElem_cons_succ, List.setIfInBounds_toArray, List.set_cons_zero, List.set_cons_succ]))
          refine wpAnyH_ready (rs := [8]) (by kernel_rfl) (by simp) (AllReadyH.cons rfl (fun K hK => ?_) AllReadyH.nil)
          rw [if_pos (by rfl)]
          refine wp_alloc_e rfl ?_
          have HBb := Aside0.mk (below_alloc HBa.out (.cells zE.toArray 27))
          have HYa := Aside0.mk (show (((W.drew.alloc (.cells zE.toArray 27)).alloc (.cells zE.toArray 27))).heap[W.drew.heap.size]? = some (.cells zE.toArray 27 (0, 0)) from blk_alloc (blk_new _ _) _)
          have HYb := Aside0.mk (show (((W.drew.alloc (.cells zE.toArray 27)).alloc (.cells zE.toArray 27))).heap[(W.drew.alloc (.cells zE.toArray 27)).heap.size]? = some (.cells zE.toArray 27 (0, 0)) from blk_new _ _)
          have HNab := Aside0.mk (show W.drew.heap.size ≠ (W.drew.alloc (.cells zE.toArray 27)).heap.size from by simp [World.alloc])
          have HGa := Aside0.mk (show W.heap.size ≤ W.drew.heap.size from Nat.le_refl _)
          have HGb := Aside0.mk (show W.heap.size ≤ (W.drew.alloc (.cells zE.toArray 27)).heap.size from by simp [World.alloc])
          obtain ⟨w2, hw2⟩ : ∃ V, ((W.drew.alloc (.cells zE.toArray 27)).alloc (.cells zE.toArray 27)) = V := ⟨_, rfl⟩
          obtain ⟨g6, hg6⟩ : ∃ g, (W.drew.alloc (.cells zE.toArray 27)).heap.size = g := ⟨_, rfl⟩
          obtain ⟨g7, hg7⟩ : ∃ g, W.drew.heap.size = g := ⟨_, rfl⟩
          rw [hw2] at HBb HYa HYb ⊢
          rw [hg7] at HYa HNab HGa ⊢
          rw [hg6] at HYb HNab HGb ⊢
          have HN67 := Aside0.mk (show g7 ≠ g6 from HNab.out)
          clear hw2 hg6 hg7 HNab
          (refine Shut.out hK _ _ (HALL.out _ HBb.out) (fun hHeld => ?_); clear hK K; (try simp only [Act.put, List.getElem_toArray, List.getElem_cons_zero, List.getElem_cons_succ, List.setIfInBounds_toArray, List.set_cons_zero, List.set_cons_succ]))
          refine wpAnyH_ready (rs := [10]) (by kernel_rfl) (by simp) (AllReadyH.cons rfl (fun K hK => ?_) AllReadyH.nil)
          rw [if_pos (by rfl)]
          refine wp_store_row 27 (.tmp 12) (.tmp 65) rfl g6 X.toArray rfl rfl 27 zE.toArray HYb.out HIX.out (by rw [List.size_toArray, List.size_toArray, zE_len, HXL.out]) HOX.out ?_
          have HBc := Aside0.mk (below_setRow HBb.out HGb.out X.toArray)
          have HYc := Aside0.mk ((setRow_other w2 g6 g7 X.toArray HN67.out).trans HYa.out)
          have HXc := Aside0.mk (setRow_heap w2 g6 zE.toArray X.toArray _ _ HYb.out)
          obtain ⟨w3, hw3⟩ : ∃ V, w2.setRow g6 X.toArray = V := ⟨_, rfl⟩
          rw [hw3] at HBc HYc HXc ⊢
          clear hw3
          (refine Shut.out hK _ _ (HALL.out _ HBc.out) (fun hHeld => ?_); clear hK K; (try simp only [Act.put, List.getElem_toArray, List.getElem_cons_zero, List.getElem_cons_succ, List.setIfInBounds_toArray, List.set_cons_zero, List.set_cons_succ]))
          refine wpAnyH_ready (rs := [11]) (by kernel_rfl) (by simp) (AllReadyH.cons rfl (fun K hK => ?_) AllReadyH.nil)
          rw [if_pos (by rfl)]
          refine wp_store_row 27 (.tmp 13) (.tmp 69) rfl g7 Y.toArray rfl rfl 27 zE.toArray HYc.out HIY.out (by rw [List.size_toArray, List.size_toArray, zE_len, HYL.out]) HOY.out ?_
          have HBd := Aside0.mk (below_setRow HBc.out HGa.out Y.toArray)
          have HXd := Aside0.mk ((setRow_other w3 g7 g6 Y.toArray HN67.out.symm).trans HXc.out)
          have HYd := Aside0.mk (setRow_heap w3 g7 zE.toArray Y.toArray _ _ HYc.out)
          obtain ⟨w4, hw4⟩ : ∃ V, w3.setRow g7 Y.toArray = V := ⟨_, rfl⟩
          rw [hw4] at HBd HYd HXd ⊢
          clear hw4
          (refine Shut.out hK _ _ (HALL.out _ HBd.out) (fun hHeld => ?_); clear hK K; (try simp only [Act.put, List.getElem_toArray, List.getElem_cons_zero, List.getElem_cons_succ, List.setIfInBounds_toArray, List.set_cons_zero, List.set_cons_succ]))
          refine wpAnyH_done (by kernel_rfl) ?_ _
          have HE := Aside0.mk (HMK.out w4 g6 g7 HXd.out HYd.out)
          have HB4 := Aside0.mk (below_step HB.out HBd.out)
          have hs1 := HE.out.1.s
          have hs2 := HE.out.1.sl
          have hs3 := HE.out.1.py
          have hs4 := HE.out.1.r
          have ht1 := HE.out.2.s
          have ht2 := HE.out.2.sl
          have ht3 := HE.out.2.py
          have ht4 := HE.out.2.r
          obtain ⟨s1, es1⟩ : ∃ v, seqE x = v := ⟨_, rfl⟩
          obtain ⟨t1, et1⟩ : ∃ v, seqE y = v := ⟨_, rfl⟩
          obtain ⟨s2, es2⟩ : ∃ v, saltE x = v := ⟨_, rfl⟩
          obtain ⟨t2, et2⟩ : ∃ v, saltE y = v := ⟨_, rfl⟩
          obtain ⟨s4, es4⟩ : ∃ v, redE x = v := ⟨_, rfl⟩
          obtain ⟨t4, et4⟩ : ∃ v, redE y = v := ⟨_, rfl⟩
          rw [es1] at hs1
          rw [et1] at ht1
          rw [es2] at hs2
          rw [et2] at ht2
          rw [es4] at hs4
          rw [et4] at ht4
          have HSE := Aside0.mk (show sameE x y = (decide (s1 = t1) && (bp && (bc && ((s4 || t4) || (decide (s2 = t2) && by_))))) from by unfold sameE; rw [es1, et1, es2, et2, es4, et4, HBP.out, HBC.out, HBY.out])
          clear es1 et1 es2 et2 es4 et4
          by_cases c1 : s1 = t1
          · have r1 : (s1 == t1) = true := by simp [c1]
            rw [decide_eq_true c1, Bool.true_and] at HSE
            clear c1
            have hp := HP.out
            have hq := HC.out
            cases bp with
            | false =>
              clear hq
              go_wp2_with (first
                | ((with_reducible refine gate_dst (N := 77) rfl ?_); (try (refine gate_guard (by rfl) ?_; dsimp only)); refine wpList_load_at rfl 23 (.tmp 76) rfl _ rfl P _ HE.out.1.fp Try.underlying23 rfl HI.out.1 ?_)
                | ((with_reducible refine gate_dst (N := 79) rfl ?_); (try (refine gate_guard (by rfl) ?_; dsimp only)); refine wpList_load_at rfl 23 (.tmp 78) rfl _ rfl P' _ HE.out.2.fp Try.underlying23 rfl HI.out.2.2.1 ?_)
                | ((with_reducible refine gate_dst (N := 84) rfl ?_); (try (refine gate_guard (by rfl) ?_; dsimp only)); refine wpList_load_at rfl 23 (.tmp 83) rfl _ rfl C _ HE.out.1.fc Try.underlying23 rfl HI.out.2.1 ?_)
                | ((with_reducible refine gate_dst (N := 86) rfl ?_); (try (refine gate_guard (by rfl) ?_; dsimp only)); refine wpList_load_at rfl 23 (.tmp 85) rfl _ rfl C' _ HE.out.2.fc Try.underlying23 rfl HI.out.2.2.2 ?_)
                | (go_at_call 23; refine (HSM.out _ HB4.out).mono ?_; rintro e w9 ⟨rfl, hd⟩; have HB9 := Aside0.mk (below_step HB4.out (Drawn0.below hd)); clear hd))
              go_roundw
              case rel => exact ⟨k + 1, false, by have := HK.out; omega, rfl, by go_num, ⟨HNX.out false (by rw [HSE.out]; first | done | rfl)⟩, HB4.out⟩
              case measure => have := HK.out; simp [intOf]; omega
            | true =>
              cases bc with
              | false =>
                go_wp2_with (first
                  | ((with_reducible refine gate_dst (N := 77) rfl ?_); (try (refine gate_guard (by rfl) ?_; dsimp only)); refine wpList_load_at rfl 23 (.tmp 76) rfl _ rfl P _ HE.out.1.fp Try.underlying23 rfl HI.out.1 ?_)
                  | ((with_reducible refine gate_dst (N := 79) rfl ?_); (try (refine gate_guard (by rfl) ?_; dsimp only)); refine wpList_load_at rfl 23 (.tmp 78) rfl _ rfl P' _ HE.out.2.fp Try.underlying23 rfl HI.out.2.2.1 ?_)
                  | ((with_reducible refine gate_dst (N := 84) rfl ?_); (try (refine gate_guard (by rfl) ?_; dsimp only)); refine wpList_load_at rfl 23 (.tmp 83) rfl _ rfl C _ HE.out.1.fc Try.underlying23 rfl HI.out.2.1 ?_)
                  | ((with_reducible refine gate_dst (N := 86) rfl ?_); (try (refine gate_guard (by rfl) ?_; dsimp only)); refine wpList_load_at rfl 23 (.tmp 85) rfl _ rfl C' _ HE.out.2.fc Try.underlying23 rfl HI.out.2.2.2 ?_)
                  | (go_at_call 23; refine (HSM.out _ HB4.out).mono ?_; rintro e w9 ⟨rfl, hd⟩; have HB9 := Aside0.mk (below_step HB4.out (Drawn0.below hd)); clear hd))
                go_roundw
                case rel => exact ⟨k + 1, false, by have := HK.out; omega, rfl, by go_num, ⟨HNX.out false (by rw [HSE.out]; first | done | rfl)⟩, HB4.out⟩
                case measure => have := HK.out; simp [intOf]; omega
              | true =>
                cases s4 with
                | true =>
                  go_wp2_with (first
                    | ((with_reducible refine gate_dst (N := 77) rfl ?_); (try (refine gate_guard (by rfl) ?_; dsimp only)); refine wpList_load_at rfl 23 (.tmp 76) rfl _ rfl P _ HE.out.1.fp Try.underlying23 rfl HI.out.1 ?_)
                    | ((with_reducible refine gate_dst (N := 79) rfl ?_); (try (refine gate_guard (by rfl) ?_; dsimp only)); refine wpList_load_at rfl 23 (.tmp 78) rfl _ rfl P' _ HE.out.2.fp Try.underlying23 rfl HI.out.2.2.1 ?_)
                    | ((with_reducible refine gate_dst (N := 84) rfl ?_); (try (refine gate_guard (by rfl) ?_; dsimp only)); refine wpList_load_at rfl 23 (.tmp 83) rfl _ rfl C _ HE.out.1.fc Try.underlying23 rfl HI.out.2.1 ?_)
                    | ((with_reducible refine gate_dst (N := 86) rfl ?_); (try (refine gate_guard (by rfl) ?_; dsimp only)); refine wpList_load_at rfl 23 (.tmp 85) rfl _ rfl C' _ HE.out.2.fc Try.underlying23 rfl HI.out.2.2.2 ?_)
                    | (go_at_call 23; refine (HSM.out _ HB4.out).mono ?_; rintro e w9 ⟨rfl, hd⟩; have HB9 := Aside0.mk (below_step HB4.out (Drawn0.below hd)); clear hd))
                  go_roundw
                  case rel => exact ⟨k + 1, true, by have := HK.out; omega, rfl, by go_num, ⟨HNX.out true (by rw [HSE.out]; first | done | rfl)⟩, HB4.out⟩
                  case measure => have := HK.out; simp [intOf]; omega
                | false =>
                  cases t4 with
                  | true =>
                    go_wp2_with (first
                      | ((with_reducible refine gate_dst (N := 77) rfl ?_); (try (refine gate_guard (by rfl) ?_; dsimp only)); refine wpList_load_at rfl 23 (.tmp 76) rfl _ rfl P _ HE.out.1.fp Try.underlying23 rfl HI.out.1 ?_)
                      | ((with_reducible refine gate_dst (N := 79) rfl ?_); (try (refine gate_guard (by rfl) ?_; dsimp only)); refine wpList_load_at rfl 23 (.tmp 78) rfl _ rfl P' _ HE.out.2.fp Try.underlying23 rfl HI.out.2.2.1 ?_)
                      | ((with_reducible refine gate_dst (N := 84) rfl ?_); (try (refine gate_guard (by rfl) ?_; dsimp only)); refine wpList_load_at rfl 23 (.tmp 83) rfl _ rfl C _ HE.out.1.fc Try.underlying23 rfl HI.out.2.1 ?_)
                      | ((with_reducible refine gate_dst (N := 86) rfl ?_); (try (refine gate_guard (by rfl) ?_; dsimp only)); refine wpList_load_at rfl 23 (.tmp 85) rfl _ rfl C' _ HE.out.2.fc Try.underlying23 rfl HI.out.2.2.2 ?_)
                      | (go_at_call 23; refine (HSM.out _ HB4.out).mono ?_; rintro e w9 ⟨rfl, hd⟩; have HB9 := Aside0.mk (below_step HB4.out (Drawn0.below hd)); clear hd))
                    go_roundw
                    case rel => exact ⟨k + 1, true, by have := HK.out; omega, rfl, by go_num, ⟨HNX.out true (by rw [HSE.out]; first | done | rfl)⟩, HB4.out⟩
                    case measure => have := HK.out; simp [intOf]; omega
                  | false =>
                    by_cases c2 : s2 = t2
                    · have r2 : (s2 == t2) = true := by simp [c2]
                      rw [decide_eq_true c2, Bool.true_and] at HSE
                      clear c2
                      cases by_ with
                      | false =>
                        go_wp2_with (first
                          | ((with_reducible refine gate_dst (N := 77) rfl ?_); (try (refine gate_guard (by rfl) ?_; dsimp only)); refine wpList_load_at rfl 23 (.tmp 76) rfl _ rfl P _ HE.out.1.fp Try.underlying23 rfl HI.out.1 ?_)
                          | ((with_reducible refine gate_dst (N := 79) rfl ?_); (try (refine gate_guard (by rfl) ?_; dsimp only)); refine wpList_load_at rfl 23 (.tmp 78) rfl _ rfl P' _ HE.out.2.fp Try.underlying23 rfl HI.out.2.2.1 ?_)
                          | ((with_reducible refine gate_dst (N := 84) rfl ?_); (try (refine gate_guard (by rfl) ?_; dsimp only)); refine wpList_load_at rfl 23 (.tmp 83) rfl _ rfl C _ HE.out.1.fc Try.underlying23 rfl HI.out.2.1 ?_)
                          | ((with_reducible refine gate_dst (N := 86) rfl ?_); (try (refine gate_guard (by rfl) ?_; dsimp only)); refine wpList_load_at rfl 23 (.tmp 85) rfl _ rfl C' _ HE.out.2.fc Try.underlying23 rfl HI.out.2.2.2 ?_)
                          | (go_at_call 23; refine (HSM.out _ HB4.out).mono ?_; rintro e w9 ⟨rfl, hd⟩; have HB9 := Aside0.mk (below_step HB4.out (Drawn0.below hd)); clear hd))
                        go_roundw
                        case rel => exact ⟨k + 1, false, by have := HK.out; omega, rfl, by go_num, ⟨HNX.out false (by rw [HSE.out]; first | done | rfl)⟩, HB9.out⟩
                        case measure => have := HK.out; simp [intOf]; omega
                      | true =>
                        go_wp2_with (first
                          | ((with_reducible refine gate_dst (N := 77) rfl ?_); (try (refine gate_guard (by rfl) ?_; dsimp only)); refine wpList_load_at rfl 23 (.tmp 76) rfl _ rfl P _ HE.out.1.fp Try.underlying23 rfl HI.out.1 ?_)
                          | ((with_reducible refine gate_dst (N := 79) rfl ?_); (try (refine gate_guard (by rfl) ?_; dsimp only)); refine wpList_load_at rfl 23 (.tmp 78) rfl _ rfl P' _ HE.out.2.fp Try.underlying23 rfl HI.out.2.2.1 ?_)
                          | ((with_reducible refine gate_dst (N := 84) rfl ?_); (try (refine gate_guard (by rfl) ?_; dsimp only)); refine wpList_load_at rfl 23 (.tmp 83) rfl _ rfl C _ HE.out.1.fc Try.underlying23 rfl HI.out.2.1 ?_)
                          | ((with_reducible refine gate_dst (N := 86) rfl ?_); (try (refine gate_guard (by rfl) ?_; dsimp only)); refine wpList_load_at rfl 23 (.tmp 85) rfl _ rfl C' _ HE.out.2.fc Try.underlying23 rfl HI.out.2.2.2 ?_)
                          | (go_at_call 23; refine (HSM.out _ HB4.out).mono ?_; rintro e w9 ⟨rfl, hd⟩; have HB9 := Aside0.mk (below_step HB4.out (Drawn0.below hd)); clear hd))
                        go_roundw
                        case rel => exact ⟨k + 1, true, by have := HK.out; omega, rfl, by go_num, ⟨HNX.out true (by rw [HSE.out]; first | done | rfl)⟩, HB9.out⟩
                        case measure => have := HK.out; simp [intOf]; omega
                    · have r2 : (s2 == t2) = false := by simp [c2]
                      rw [decide_eq_false c2, Bool.false_and] at HSE
                      clear c2
                      go_wp2_with (first
                        | ((with_reducible refine gate_dst (N := 77) rfl ?_); (try (refine gate_guard (by rfl) ?_; dsimp only)); refine wpList_load_at rfl 23 (.tmp 76) rfl _ rfl P _ HE.out.1.fp Try.underlying23 rfl HI.out.1 ?_)
                        | ((with_reducible refine gate_dst (N := 79) rfl ?_); (try (refine gate_guard (by rfl) ?_; dsimp only)); refine wpList_load_at rfl 23 (.tmp 78) rfl _ rfl P' _ HE.out.2.fp Try.underlying23 rfl HI.out.2.2.1 ?_)
                        | ((with_reducible refine gate_dst (N := 84) rfl ?_); (try (refine gate_guard (by rfl) ?_; dsimp only)); refine wpList_load_at rfl 23 (.tmp 83) rfl _ rfl C _ HE.out.1.fc Try.underlying23 rfl HI.out.2.1 ?_)
                        | ((with_reducible refine gate_dst (N := 86) rfl ?_); (try (refine gate_guard (by rfl) ?_; dsimp only)); refine wpList_load_at rfl 23 (.tmp 85) rfl _ rfl C' _ HE.out.2.fc Try.underlying23 rfl HI.out.2.2.2 ?_)
                        | (go_at_call 23; refine (HSM.out _ HB4.out).mono ?_; rintro e w9 ⟨rfl, hd⟩; have HB9 := Aside0.mk (below_step HB4.out (Drawn0.below hd)); clear hd))
                      go_roundw
                      case rel => exact ⟨k + 1, false, by have := HK.out; omega, rfl, by go_num, ⟨HNX.out false (by rw [HSE.out]; first | done | rfl)⟩, HB4.out⟩
                      case measure => have := HK.out; simp [intOf]; omega
          · have r1 : (s1 == t1) = false := by simp [c1]
            rw [decide_eq_false c1, Bool.false_and] at HSE
            clear c1
            go_wp2_with (first
              | ((with_reducible refine gate_dst (N := 77) rfl ?_); (try (refine gate_guard (by rfl) ?_; dsimp only)); refine wpList_load_at rfl 23 (.tmp 76) rfl _ rfl P _ HE.out.1.fp Try.underlying23 rfl HI.out.1 ?_)
              | ((with_reducible refine gate_dst (N := 79) rfl ?_); (try (refine gate_guard (by rfl) ?_; dsimp only)); refine wpList_load_at rfl 23 (.tmp 78) rfl _ rfl P' _ HE.out.2.fp Try.underlying23 rfl HI.out.2.2.1 ?_)
              | ((with_reducible refine gate_dst (N := 84) rfl ?_); (try (refine gate_guard (by rfl) ?_; dsimp only)); refine wpList_load_at rfl 23 (.tmp 83) rfl _ rfl C _ HE.out.1.fc Try.underlying23 rfl HI.out.2.1 ?_)
              | ((with_reducible refine gate_dst (N := 86) rfl ?_); (try (refine gate_guard (by rfl) ?_; dsimp only)); refine wpList_load_at rfl 23 (.tmp 85) rfl _ rfl C' _ HE.out.2.fc Try.underlying23 rfl HI.out.2.2.2 ?_)
              | (go_at_call 23; refine (HSM.out _ HB4.out).mono ?_; rintro e w9 ⟨rfl, hd⟩; have HB9 := Aside0.mk (below_step HB4.out (Drawn0.below hd)); clear hd))
            go_roundw
            case rel => exact ⟨k + 1, false, by have := HK.out; omega, rfl, by go_num, ⟨HNX.out false (by rw [HSE.out]; first | done | rfl)⟩, HB4.out⟩
            case measure => have := HK.out; simp [intOf]; omega
      · have d1 : decide ((k : Int) < (m : Int)) = false := decide_eq_false (by omega)
        have d2 : decide (k < m) = false := decide_eq_false hlt
        clear hlt hk
        go_wp2_with (fail)
        refine (live24_c _).mono ?_
        rintro e w20 ⟨rfl, hb⟩
        have HB20 := Aside0.mk (below_step HB.out hb)
        clear hb
        go_wp2_with (fail)
        go_ret
        exact ⟨rfl, HB20.out⟩
end Go.Proofs.Ytfpkgdenohcglaa.Chn
/- Entries that came in; the laws' walks, as the rows ask for them. -/
namespace Go.Proofs.Ytfpkgdenohcglaa.Chn
set_option linter.unusedVariables false
open Go.RowKit Go.Proofs.Ytfpkgdenohcglaa.Base Go.Proofs.Ytfpkgdenohcglaa.TlvPlain Go.Proofs.Ytfpkgdenohcglaa.ShaPlain Go.Proofs.Ytfpkgdenohcglaa.Sha Go.Proofs.Ytfpkgdenohcglaa.Com Go.Proofs.Ytfpkgdenohcglaa.Aid Go.Proofs.YtfpkgdenohcglaaW.PrintWords
abbrev okE (x : Ent) : Prop := (Lit.int .i64 x.1).wf = true ∧ (∀ y ∈ x.2.1, (Lit.int .u8 y).wf = true) ∧ (∀ y ∈ x.2.2.1, (Lit.int .u8 y).wf = true) ∧ (Lit.int .u64 x.2.2.2.1).wf = true ∧ (∀ y ∈ x.2.2.2.2.1, (Lit.int .u8 y).wf = true) ∧ True
theorem opens_sum : Open.Opens Try.prog 23 KS (fun xs => ∀ y ∈ xs, (Lit.int .u8 y).wf = true) :=
  Open.opens_array (hs := by decide) Try.underlying23 (by kernel_rfl) (by kernel_rfl) (Open.opens_int Try.underlying5)
theorem opens_ent : Open.Opens Try.prog 27 DEnt okE := by
  have h := (show Open.Opens Try.prog 27 _ _ from Open.opens_struct Try.underlying27 (by kernel_rfl) (fun n => Open.opensF_cons rfl (by kernel_rfl) (Open.opens_int Try.underlying3 n) (Open.opensF_cons rfl (by kernel_rfl) (opens_sum n) (Open.opensF_cons rfl (by kernel_rfl) (opens_sum n)
    (Open.opensF_cons rfl (by kernel_rfl) (Open.opens_int Try.underlying24 n) (Open.opensF_cons rfl (by kernel_rfl) (Open.opens_slice Try.underlying25 (by kernel_rfl) (Open.opens_int Try.underlying5) n) (Open.opensF_one rfl (by kernel_rfl) (Open.opens_bool Try.underlying4 n))))))))
  exact h
theorem opens_ents : Open.Opens Try.prog 22 (Kd.slice 27 DEnt) (fun xs => ∀ x ∈ xs, okE x) := Open.opens_slice Try.underlying22 (by kernel_rfl) opens_ent
theorem eu_of {w : World} {x : Ent} {P C : List Value} {A : Option Addr} {c : Nat} (hC : EntC w x P C A c) (ok : okE x) : Eu x :=
  ⟨hC.fp.len, fun y hy => byte_wf (ok.2.1 y hy), hC.fc.len, fun y hy => byte_wf (ok.2.2.1 y hy), (u64_wf ok.2.2.2.1).1, (u64_wf ok.2.2.2.1).2, fun y hy => byte_wf (ok.2.2.2.2.1 y hy)⟩
theorem lu_of {w : World} {A : Option Addr} {l : List Ent} (hr : Re w A l) (ok : ∀ x ∈ l, okE x) : Lu' l := fun x hx => by
  obtain ⟨i, hi, rfl⟩ := List.mem_iff_getElem.1 hx
  obtain ⟨_, _, _, _, _, _, _, h⟩ := re_at hr i hi
  exact eu_of h (ok _ hx)
end Go.Proofs.Ytfpkgdenohcglaa.Chn
/- The law ChainOne, as the row asks for it. -/
namespace Go.Proofs.Ytfpkgdenohcglaa.Chn
set_option linter.unusedVariables false
open Go.RowKit Go.Proofs.Ytfpkgdenohcglaa.Base Go.Proofs.Ytfpkgdenohcglaa.TlvPlain Go.Proofs.Ytfpkgdenohcglaa.ShaPlain Go.Proofs.Ytfpkgdenohcglaa.Sha Go.Proofs.Ytfpkgdenohcglaa.Com Go.Proofs.Ytfpkgdenohcglaa.Aid Go.Proofs.YtfpkgdenohcglaaW.PrintWords
theorem oneWalk (w : World) (A : Option Addr) (c : Nat) (a : List Ent) (hr : Re w A a) (hc : a.length ≤ c) (ok : ∀ x ∈ a, okE x) (A' : Option Addr) (c' : Nat) (b : List Ent) (hr2 : Re w A' b) (hc2 : b.length ≤ c') (ok2 : ∀ x ∈ b, okE x) :
    Calls Try.prog 4 #[.slice A a.length c, .slice A' b.length c'] w fun e w' => e = .returned (.bool true) ∧ Below w.heap.size w w' := by
  have l1 : a.length ≤ 9223372036854775807 := hr.2.1
  have l2 : b.length ≤ 9223372036854775807 := hr2.2.1
  by_cases fa : fewT a = true
  · by_cases fb : fewT b = true
    · obtain ⟨ha, sa⟩ := fewT_yes fa
      obtain ⟨hb, sb⟩ := fewT_yes fb
      have hu := lu_of hr ok
      have hv := lu_of hr2 ok2
      obtain ⟨⟨i1, b1⟩, va⟩ : ∃ v, verT a (headT a) (a.length : Int) = v := ⟨_, rfl⟩
      obtain ⟨⟨i2, b2⟩, vb⟩ : ∃ v, verT b (headT a) (a.length : Int) = v := ⟨_, rfl⟩
      by_cases h : b1 = false ∨ b2 = false
      · exact one_ver a b a.length b.length rfl rfl ha hb hu hv sa sb fa fb A A' c c' hc hc2 w hr hr2 i1 i2 b1 b2 va vb h
      · have h1 : b1 = true := by cases b1; exact absurd (Or.inl rfl) h; rfl
        have h2 : b2 = true := by cases b2; exact absurd (Or.inr rfl) h; rfl
        subst h1 h2
        have hn := len_eq (n := b.length) rfl vb
        have h3 := one_main a b a.length rfl hn ha hu hv sa sb fa fb A A' c c' hc (by omega) w hr hr2 i1 i2 va vb
        rw [hn]
        exact h3
    · exact one_few a b _ _ rfl rfl l1 l2 A A' c c' w hr hr2 (.inr (by simpa using fb))
  · exact one_few a b _ _ rfl rfl l1 l2 A A' c c' w hr hr2 (.inl (by simpa using fa))
end Go.Proofs.Ytfpkgdenohcglaa.Chn
