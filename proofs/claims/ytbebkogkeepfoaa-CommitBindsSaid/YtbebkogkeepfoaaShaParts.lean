import Derived.Test.YtbebkogkeepfoaaShaEq
/- ShaParts: the law's walk. -/
namespace Go.Proofs.Ytbebkogkeepfoaa.Sha
set_option linter.unusedVariables false
open Go.RowKit Go.Proofs.Ytbebkogkeepfoaa.Base Go.Proofs.Ytbebkogkeepfoaa.ShaPlain Go.Proofs.Ytbebkogkeepfoaa.Aid Go.Proofs.YtbebkogkeepfoaaW.PrintWords Go.Proofs.YtbebkogkeepfoaaW.PrintLast Go.Proofs.YtbebkogkeepfoaaW.PrintMore
theorem Ob_keep_hash {w w1 : World} {base g : Nat} {v : Value} {xs : List Int} {cs : Array Value} (h : Ob w base v xs) (hb : w.heap[g]? = some (.cells cs 40 (0, 0))) (hk : KeepBut w w1 g none) : Ob w1 base v xs :=
  Kd.R_mono (Kd.R_keep (Kd.R_types h hb (fun q hq => by have : q = 5 := by simpa [Kd.int, Kd.scalar] using hq
                                                        omega)) hk (fun k hk => hk.2)) (fun _ _ => trivial)
theorem one_own {w : World} {base : Nat} {v : Value} {xs : List Int} (h : Ob w base v xs) (T : Nat) : ∃ A c, v = .slice A xs.length c ∧ Rr (w.alloc (.cells #[v] T)) (some ⟨w.heap.size, 0, none⟩) [xs] := by
  obtain ⟨A, c, rfl, hc, hr⟩ := Ob.reads h
  exact ⟨A, c, rfl, one_row w A c T xs hr hc⟩
def PInv (w : World) (g : Nat) (l : List (List Int)) (k : Nat) (v : Value) (wx : World) : Prop :=
  Ob wx w.heap.size v (l.take k).flatten ∧ HS w wx g (List.foldl put st0 (l.take k).flatten) ∧ Below w.heap.size w wx
/-- All parts as far as they are looked at are short. -/
theorem flat_len (l : List (List Int)) : ∀ k, (∀ p ∈ l.take k, p.length ≤ 300) → (l.take k).flatten.length ≤ 300 * k := by
  intro k
  induction k with
  | zero => intro _; simp
  | succ k ih =>
    intro h
    by_cases hk : k < l.length
    · have h1 := ih (fun p hp => h p (by rw [Aid.take_snoc l k hk]; exact List.mem_append_left _ hp))
      have h2 := h l[k] (by rw [Aid.take_snoc l k hk]; exact List.mem_append_right _ (List.mem_singleton.2 rfl))
      rw [flat_take l k hk, List.length_append]
      omega
    · have e : l.take (k + 1) = l.take k := by rw [List.take_of_length_le (by omega), List.take_of_length_le (by omega)]
      rw [e] at h ⊢
      have := ih h
      omega
set_option maxHeartbeats 4000000 in
set_option maxRecDepth 100000 in
theorem parts_walk (w : World) (A : Option Addr) (c : Nat) (l : List (List Int)) (hr : Rr w A l) (hc : l.length ≤ c) (hu : ∀ p ∈ l, ∀ x ∈ p, 0 ≤ x ∧ x ≤ 255) :
    Calls Try.prog 4 #[.slice A l.length c] w fun e w' => e = .returned (.bool true) ∧ Below w.heap.size w w' := by
  have hg32 := guard_32
  have HR := Aside0.mk hr
  have HU := Aside0.mk hu
  have HC := Aside0.mk hc
  clear hr hu hc
  by_cases hl : 30 < l.length
  · have hd : decide ((30 : Int) < (l.length : Int)) = true := decide_eq_true (by omega)
    go_enter Try.func4, Try.ntmps4
    go_wp2_with (go_at_call 13; refine (live_c _).mono ?_; rintro e w' ⟨rfl, hb⟩)
    go_ret
    exact ⟨rfl, hb⟩
  · have hd : decide ((30 : Int) < (l.length : Int)) = false := decide_eq_false (by omega)
    have hlen : l.length ≤ 30 := by omega
    clear hl
    go_enter Try.func4, Try.ntmps4
    go_wp2_with (fail)
    refine (new_c _).mono ?_
    rintro e w1 ⟨g, rfl, hh, hb⟩
    have H0 := Aside0.mk (show PInv w g l 0 (.slice none 0 0) w1 from ⟨Kd.R_nil _ _ _ _ _, hh, hb⟩)
    clear hh hb
    go_wp2_with (fail)
    go_loopw [4, 5] (fun v i wx => ∃ k : Nat, k ≤ l.length ∧ i = .int .i64 k ∧ (∀ p ∈ l.take k, p.length ≤ 300) ∧ PInv w g l k v wx) (fun _ i _ => l.length - (intOf i).toNat)
    case atStart => exact ⟨0, by omega, rfl, by simp, H0.out⟩
    case round =>
      clear H0
      obtain ⟨k, hk, rfl, hshort, hinv⟩ := hrel
      have HI := Aside0.mk hinv
      have HSH := Aside0.mk hshort
      by_cases hlt : k < l.length
      · obtain ⟨ad, A1, c1, rfl, hcell, hc1, hrd⟩ := rows_at HR.out k hlt
        have hcw := (hinv.2.2.cell (World.block_lt_of_cell? _ _ hcell)).trans hcell
        have HCELL := Aside0.mk hcell
        have HRD := Aside0.mk hrd
        have HC1 := Aside0.mk hc1
        have HUK := Aside0.mk (HU.out l[k] (List.getElem_mem hlt))
        obtain ⟨p, hp⟩ : ∃ p, l[k] = p := ⟨_, rfl⟩
        have HPE := Aside0.mk hp
        rw [hp] at hcw HRD HC1 HUK HCELL
        clear hcell hc1 hrd hinv hp hshort
        by_cases h300 : 300 < p.length
        · have hd3 : decide ((300 : Int) < (p.length : Int)) = true := decide_eq_true (by omega)
          clear h300
          go_wp2_with (fail)
          refine (live_c _).mono ?_
          rintro e w2 ⟨rfl, hb⟩
          have HF := Aside0.mk (below_step HI.out.2.2 hb)
          clear hb
          go_wp2_with (fail)
          go_ret
          exact ⟨rfl, HF.out⟩
        · have hd3 : decide ((300 : Int) < (p.length : Int)) = false := decide_eq_false (by omega)
          have H300 := Aside0.mk (show p.length ≤ 300 by omega)
          clear h300
          have HFL := Aside0.mk (show (l.take k).flatten.length ≤ 9000 by have := flat_len l k HSH.out; omega)
          have HFT := Aside0.mk (show (l.take (k + 1)).flatten = (l.take k).flatten ++ p by rw [flat_take l k hlt, HPE.out])
          have HHS := Aside0.mk HI.out.2.1
          go_wp2_with (first
            | ((with_reducible refine gate_builtin (b := .append) (xs := #[.tmp 24, .tmp 28]) rfl ?_); at_builtin; refine Kd.R_append_rows (Kd.int .u8) (w0 := w) w.heap.size rfl (.tmp 24) (.tmp 28) 22 5 (.int .u8 0) 1 rfl Try.underlying22 info_u8 rfl (by decide) (by omega) u4 (l.take k).flatten p _ _ _ (fun _ => True) (fun _ => False) rfl rfl HI.out.1 (Kd.C_below HRD.out HI.out.2.2) (fun _ _ h => h) (fun _ h => h.elim) (fun _ _ => trivial) HI.out.2.2 HI.out.2.2.size (by have := HFL.out; have := H300.out; omega) ?_; intro v2 w2 ho hb hg hat; rw [← HFT.out] at ho; have HO2 := Aside0.mk ho; have HB2 := Aside0.mk hb; have HS2 := Aside0.mk (show HS w w2 g (List.foldl put st0 (l.take k).flatten) from ⟨HHS.out.1, blk_grown HHS.out.2.1 hg (Kd.R_ne HI.out.1 HHS.out.2.1 (by decide)), HHS.out.2.2⟩); clear hcw; have hcw := (hb.cell (World.block_lt_of_cell? _ _ HCELL.out)).trans HCELL.out; clear ho hb hg hat))
          have HNE := Aside0.mk (show ∀ a, A1 = some a → 0 < p.length → a.block ≠ g from fun a ha h0 => by
            have h1 := reads_lt HRD.out a ha h0
            have h2 := HHS.out.1
            omega)
          have HPN := Aside0.mk (puts_n (l.take k).flatten st0)
          refine (write_c w w2 g _ A1 c1 p HS2.out HB2.out (Kd.C_below HRD.out HB2.out) HC1.out HUK.out HNE.out (by rw [HPN.out]; have := HFL.out; have := H300.out; show 0 + _ + _ ≤ _; omega)).mono ?_
          rintro e w3 ⟨rfl, h1, h2, h3⟩
          have HO3 := Aside0.mk (Ob_keep_hash HO2.out HS2.out.2.1 h3)
          rw [← List.foldl_append, ← HFT.out] at h1
          have HS3 := Aside0.mk h1
          have HB3 := Aside0.mk h2
          clear h1 h2 h3 hcw
          obtain ⟨F, hF⟩ : ∃ F, (l.take (k + 1)).flatten = F := ⟨_, rfl⟩
          have HFE := Aside0.mk hF
          have HF9 := Aside0.mk (show F.length ≤ 9300 by rw [← hF, HFT.out, List.length_append]; have := HFL.out; have := H300.out; omega)
          rw [hF] at HO3 HS3
          clear hF
          go_wp2_with (fail)
          refine (sum_c w3 g _ HS3.out.2.1 HS3.out.2.2.1 HS3.out.2.2.2.1 HS3.out.2.2.2.2.1 HS3.out.2.2.2.2.2 (by rw [puts_n]; have := HF9.out; show 0 + _ ≤ _; omega)).mono ?_
          rintro e w4 ⟨rfl, hb4⟩
          have HO4 := Aside0.mk (Kd.R_below HO3.out hb4)
          have HS4 := Aside0.mk (show HS w w4 g (List.foldl put st0 F) from Hsh.below HS3.out hb4)
          have HB4 := Aside0.mk (below_step HB3.out hb4)
          clear hb4
          rw [show sumB (List.foldl put st0 F) = shaB F from rfl]
          obtain ⟨A5, c5, rfl, hc5, hr5⟩ := Ob.reads HO4.out
          have HC5 := Aside0.mk hc5
          have HR5 := Aside0.mk hr5
          clear hc5 hr5
          have HUF := Aside0.mk (show ∀ x ∈ F, 0 ≤ x ∧ x ≤ 255 from fun x hx => by
            rw [← HFE.out] at hx
            obtain ⟨q, hq, hxq⟩ := List.mem_flatten.1 hx
            exact HU.out q (List.mem_of_mem_take hq) x hxq)
          go_wp2_with (fail)
          refine (of_c (some ⟨w4.heap.size, 0, none⟩) 1 [F] _ (one_row w4 A5 c5 22 F HR5.out HC5.out) (by simp) (by simpa using HUF.out) (by have := HF9.out; simp; omega) (by simp)).mono ?_
          rintro e w5 ⟨rfl, hb5⟩
          have hb6 := below_step (below_alloc (Below.refl w4.heap.size w4) (.cells #[.slice A5 F.length c5] 22)) hb5
          have HF := Aside0.mk (show PInv w g l (k + 1) (.slice A5 F.length c5) w5 by
            unfold PInv
            rw [HFE.out]
            exact ⟨Kd.R_below HO4.out hb6, Hsh.below HS4.out hb6, below_step HB4.out hb6⟩)
          clear hb5 hb6
          rw [show [F].flatten = F from by simp]
          have heq := run_eq_sum (shaB F) (shaB F) (shaB_len _) (shaB_len _)
          rw [decide_eq_true rfl] at heq
          have HSH2 := Aside0.mk (show ∀ q ∈ l.take (k + 1), q.length ≤ 300 from fun q hq => by
            rw [Aid.take_snoc l k hlt] at hq
            rcases List.mem_append.1 hq with hq | hq
            · exact HSH.out q hq
            · rw [List.mem_singleton.1 hq, HPE.out]; exact H300.out)
          go_wp2_with (fail)
          go_roundw
          case rel => exact ⟨k + 1, by omega, by go_num, HSH2.out, HF.out⟩
          case measure => simp [intOf]; omega
      · have HKE := Aside0.mk (show l.take k = l from List.take_of_length_le (by omega))
        have hge : l.length ≤ k := by omega
        have hi := hinv
        unfold PInv at hi
        rw [HKE.out] at hi
        have hs := hshort
        rw [HKE.out] at hs
        have HJ := Aside0.mk hi
        have HFL := Aside0.mk (show l.flatten.length ≤ 9000 by
          have h := flat_len l l.length (by rw [List.take_of_length_le (Nat.le_refl _)]; exact hs)
          rw [List.take_of_length_le (Nat.le_refl _)] at h
          omega)
        clear hinv hlt hk hi HI hshort hs HSH
        obtain ⟨F, hF⟩ : ∃ F, l.flatten = F := ⟨_, rfl⟩
        have HFE := Aside0.mk hF
        have HJ1 := HJ.out.1
        rw [hF] at HJ1
        obtain ⟨A5, c5, rfl, hc5, hr5⟩ := Ob.reads HJ1
        have HC5 := Aside0.mk hc5
        have HR5 := Aside0.mk hr5
        have HUF := Aside0.mk (show ∀ x ∈ F, 0 ≤ x ∧ x ≤ 255 by
          rw [← hF]
          exact fun x hx => by
            obtain ⟨q, hq, hxq⟩ := List.mem_flatten.1 hx
            exact HU.out q hq x hxq)
        have HFL2 := Aside0.mk (show F.length ≤ 9000 by rw [← hF]; exact HFL.out)
        clear HJ1 hF
        have HUF0 := Aside0.mk (show ∀ x ∈ l.flatten, 0 ≤ x ∧ x ≤ 255 from fun x hx => by
          obtain ⟨q, hq, hxq⟩ := List.mem_flatten.1 hx
          exact HU.out q hq x hxq)
        have HL62 := Aside0.mk (show l.length ≤ 4611686018427387904 by omega)
        clear hc5 hr5
        go_wp2_with (fail)
        refine (of_c A c l _ (Kd.C_below HR.out HJ.out.2.2) HC.out HU.out (by have := HFL.out; omega) HL62.out).mono ?_
        rintro e w5 ⟨rfl, hb5⟩
        rw [HFE.out]
        have HB5 := Aside0.mk (below_step HJ.out.2.2 hb5)
        have HR6 := Aside0.mk (Kd.C_below HR5.out hb5)
        clear hb5
        go_wp2_with (fail)
        refine (of_c (some ⟨w5.heap.size, 0, none⟩) 1 [F] _ (one_row w5 A5 c5 22 F HR6.out HC5.out) (by simp) (by simpa using HUF.out) (by have := HFL2.out; simp; omega) (by simp)).mono ?_
        rintro e w6 ⟨rfl, hb6⟩
        have HB6 := Aside0.mk (below_step HB5.out (below_step (below_alloc (Below.refl w5.heap.size w5) (.cells #[.slice A5 F.length c5] 22)) hb6))
        clear hb6
        rw [show [F].flatten = F from by simp]
        have heq := run_eq_sum (shaB F) (shaB F) (shaB_len _) (shaB_len _)
        rw [decide_eq_true rfl] at heq
        go_wp2_with (fail)
        refine (live_c _).mono ?_
        rintro e w7 ⟨rfl, hb7⟩
        have HF := Aside0.mk (below_step HB6.out hb7)
        clear hb7
        go_wp2_with (fail)
        go_ret
        exact ⟨rfl, HF.out⟩
theorem byte_wf {x : Int} (h : (Lit.int .u8 x).wf = true) : 0 ≤ x ∧ x ≤ 255 := by
  simp only [Lit.wf, IntKind.min, IntKind.max, IntKind.signed, IntKind.bits, Bool.and_eq_true] at h
  have h1 := of_decide_eq_true h.1
  have h2 := of_decide_eq_true h.2
  simp at h1 h2
  omega
theorem partsWalk (w : World) (A : Option Addr) (c : Nat) (l : List (List Int)) (hr : Rr w A l) (hc : l.length ≤ c) (ok : ∀ p ∈ l, ∀ x ∈ p, (Lit.int .u8 x).wf = true) :
    Calls Try.prog 4 #[.slice A l.length c] w fun e w' => e = .returned (.bool true) ∧ Below w.heap.size w w' :=
  parts_walk w A c l hr hc (fun p hp x hx => byte_wf (ok p hp x hx))
end Go.Proofs.Ytbebkogkeepfoaa.Sha
