import Derived.Test.YtobljmgoengofaaAllocCuts
import Derived.Test.YtobljmgoengofaaAllocEv
import Derived.Deep.RegionHeld3
import Derived.Test.YtobljmgoengofaaPZxFallocBits
import Derived.Test.YtobljmgoengofaaPZxFallocList
import Derived.Test.YtobljmgoengofaaPZxFhanaperref01SameInts
import Derived.Test.YtobljmgoengofaaPZxFhanaperref01Same
import Derived.Test.YtobljmgoengofaaPZxFallocPages
/- AllocBack: the law's walk. -/
namespace Go.Proofs.Ytobljmgoengofaa.AllocBack
open Go.RowKit Go.Proofs.Ytobljmgoengofaa.Base Go.Proofs.Ytobljmgoengofaa.Chunk Go.Proofs.Ytobljmgoengofaa.Cut Go.Proofs.Ytobljmgoengofaa.CutEv Go.Proofs.Ytobljmgoengofaa.AllocCuts Go.Proofs.Ytobljmgoengofaa.Aid Go.Proofs.Ytobljmgoengofaa.AllocEv Go.Proofs.Ytobljmgoengofaa.AllocPlain Go.Proofs.Ytobljmgoengofaa.TlvPlain Go.Proofs.Ytobljmgoengofaa.PZ Go.Proofs.YtobljmgoengofaaW.PrintWords Go.Proofs.YtobljmgoengofaaW.PrintLast Go.Proofs.YtobljmgoengofaaW.PrintMore

theorem u8_wf {l : List Int} (h : ∀ x ∈ l, (Lit.int .u8 x).wf = true) : U8 l := by
  intro x hx
  have := h x hx
  simp only [Lit.wf, IntKind.min, IntKind.max, IntKind.signed, IntKind.bits, Bool.and_eq_true] at this
  simp at this
  omega
theorem flat_take (b : List Int) : ∀ i, i ≤ nch b.length → ((sectors b).take i).flatten = b.take (256 * i) ++ List.replicate (256 * i - b.length) 0 := by
  intro i
  induction i with
  | zero => intro _; simp
  | succ i ih =>
    intro h
    have hi : i < (sectors b).length := by rw [sectors_len]; omega
    have hl : 256 * i < b.length := by unfold nch at h; omega
    rw [take_snoc _ i hi, List.flatten_append, ih (by omega), sectors_at, show 256 * i - b.length = 0 by omega]
    simp only [List.replicate_zero, List.append_nil, List.flatten_cons, List.flatten_nil]
    unfold sector piece
    rw [← List.append_assoc]
    congr 1
    · rw [← List.take_add]
      unfold plen
      by_cases h2 : 256 * (i + 1) ≤ b.length
      · congr 1; omega
      · rw [List.take_of_length_le (by omega), List.take_of_length_le (by omega)]
    · congr 1
      unfold plen
      omega
/-- All sectors together. -/
theorem flat_all (b : List Int) : (sectors b).flatten = b ++ List.replicate (256 * nch b.length - b.length) 0 := by
  have h := flat_take b (nch b.length) (Nat.le_refl _)
  rw [List.take_of_length_le (by rw [sectors_len]; exact Nat.le_refl _), List.take_of_length_le (by unfold nch; omega)] at h
  exact h
theorem back_spec (l : List Int) (n : Int) (h : (bitsSpec l n).2 = true) : listSpec (bitsSpec l n).1 n = (l, true) := by
  unfold bitsSpec at h ⊢
  by_cases h1 : 0 ≤ n ∧ n ≤ 4096
  · rw [if_pos h1] at h ⊢
    cases hi : incr n (-1) l with
    | false => rw [hi] at h; cases h
    | true =>
      simp only [cond_true]
      have e : listFrom (bitsOf (mem l) ((n.toNat + 7) / 8)) 0 = l := list_bits hi _ (by omega)
      unfold listSpec
      rw [if_pos ⟨h1.1, h1.2, bitsOf_length _ _⟩, e]
      have ho : outOf n l = false := by
        unfold outOf
        rw [List.any_eq_false]
        intro x hx
        have := incr_take_mem hi x hx
        simp
        omega
      rw [ho]
      rfl
  · rw [if_neg h1] at h
    cases h
theorem bits_u8 (l : List Int) (n : Int) : U8 (bitsSpec l n).1 := by
  unfold bitsSpec
  split
  · cases incr n (-1) l with
    | false => exact fun x hx => by cases hx
    | true =>
      intro x hx
      simp only [cond_true, bitsOf, List.mem_map] at hx
      obtain ⟨j, _, rfl⟩ := hx
      exact byteAt_range _ _
  · exact fun x hx => by cases hx
theorem drop_reads {w : World} {A A8 : Option Addr} {L : List Int} {m n z c : Nat} (h : ∀ (w : World) (k : IntKind) (xs : List Int), m ≤ c → ReadsInt w k A m xs → ReadsInt w k A8 (m - n) (xs.drop n)) (hm : L.length = m) (_ : m - n = z) (hc : m ≤ c) (hr : Kd.C (Kd.int .u8) w A L.length L) : Rb w A8 (L.drop n) := by
  have h1 := Kd.reads_of_C (d := (0 : Int)) hr
  rw [hm] at h1
  have h2 := Kd.C_of_reads (d := (0 : Int)) (h1 := fun _ => rfl) (h w .u8 L hc h1)
  show Kd.C _ w A8 (L.drop n).length (L.drop n)
  rw [List.length_drop, hm]
  exact h2
theorem made_reads (W : World) (z : Nat) (hz : z ≤ 4611686018427387904) : Kd.C (Kd.int .u8) (W.alloc (.cells (madeCells #[.int .u8 0] z) 5)) (some ⟨W.heap.size, 0, none⟩) (List.replicate z (0 : Int)).length (List.replicate z 0) := by
  have h := own_made W W.heap.size 5 .u8 z (Nat.le_refl _) (by omega)
  have h2 : (Kd.int .u8).R 5 (W.alloc (.cells (madeCells #[.int .u8 0] z) 5)) W.heap.size (fun _ => True) (.slice (some ⟨W.heap.size, 0, none⟩) z z) (List.replicate z 0) := Kd.R_of_own (by rw [List.length_replicate]; exact h) (fun _ _ => trivial)
  exact (Kd.R_reads' h2).2.2
theorem apages (n : Nat) (h : n < 140737488355328) : alloc_Pages.f (n : Int) = some ((nch n : Nat) : Int) := pages_f n h

theorem sec_at {w : World} {A : Option Addr} {b : List Int} (h : Kd.C KR w A (sectors b).length (sectors b)) (k : Nat) (hk : k < nch b.length) :
    ∃ ad A' c', A = some ad ∧ w.cell? (ad.add k) = some (.slice A' 256 c') ∧ 256 ≤ c' ∧ Kd.C (Kd.int .u8) w A' 256 (sector b k) := by
  have hl := sectors_len b
  obtain ⟨ad, c, e, _, ⟨A', c', rfl, h1, h2⟩, hc⟩ := Kd.C_get h [] (k : Int) (by omega) (by omega)
  have e2 : (sectors b).getD (k : Int).toNat [] = sector b k := by
    rw [Int.toNat_natCast, List.getD_eq_getElem?_getD, List.getElem?_eq_getElem (by omega)]
    exact sectors_at b k (by omega)
  rw [e2, sector_len] at h1 h2 hc
  refine ⟨ad, A', c', e, ?_, h1, h2⟩
  have := hc 0 _ rfl
  simpa using (show w.cell? (ad.add ((k : Int).toNat * 1 + 0)) = _ from this)
theorem flat_snoc (b : List Int) (k : Nat) (h : k < nch b.length) : ((sectors b).take (k + 1)).flatten = ((sectors b).take k).flatten ++ sector b k := by
  have hi : k < (sectors b).length := by rw [sectors_len]; omega
  rw [take_snoc _ k hi, List.flatten_append, sectors_at]
  simp
theorem take_len (b : List Int) (k : Nat) (h : k ≤ nch b.length) : ((sectors b).take k).flatten.length ≤ 256 * nch b.length := by
  rw [flat_take b k h, List.length_append, List.length_take, List.length_replicate]
  have : 256 * k ≤ 256 * nch b.length := Nat.mul_le_mul_left _ h
  omega

set_option maxHeartbeats 1000000 in
set_option maxRecDepth 100000 in
theorem long (w : World) (at_ b : List Int) (n : Int) (A1 A2 : Option Addr) (c1 c2 : Nat) (h : 300 < at_.length ∨ 600 < n ∨ 3000 < b.length) :
    Calls Try.prog 11 #[.slice A1 at_.length c1, .int .i64 n, .slice A2 b.length c2] w fun e w' => e = .returned (.bool true) ∧ Below w.heap.size w w' := by
  by_cases h1 : 300 < at_.length
  · have hd1 : decide (300 < at_.length) = true := decide_eq_true h1
    have hd2 : decide ((300 : Int) < (at_.length : Int)) = true := decide_eq_true (by omega)
    clear h h1
    go_enter Try.func11, Try.ntmps11
    go_wp2_with (go_at_call 20; refine (AllocLive.live_c _).mono ?_; rintro e w1 ⟨rfl, hb⟩)
    go_ret
    exact ⟨rfl, hb⟩
  · have hd1 : decide (300 < at_.length) = false := decide_eq_false h1
    have hd2 : decide ((300 : Int) < (at_.length : Int)) = false := decide_eq_false (by omega)
    by_cases h2 : 600 < n
    · have hd3 : decide ((600 : Int) < n) = true := decide_eq_true h2
      clear h h1 h2
      go_enter Try.func11, Try.ntmps11
      go_wp2_with (go_at_call 20; refine (AllocLive.live_c _).mono ?_; rintro e w1 ⟨rfl, hb⟩)
      go_ret
      exact ⟨rfl, hb⟩
    · have hd3 : decide ((600 : Int) < n) = false := decide_eq_false h2
      have hd4 : decide (3000 < b.length) = true := decide_eq_true (by omega)
      have hd5 : decide ((3000 : Int) < (b.length : Int)) = true := decide_eq_true (by omega)
      clear h h1 h2
      go_enter Try.func11, Try.ntmps11
      go_wp2_with (go_at_call 20; refine (AllocLive.live_c _).mono ?_; rintro e w1 ⟨rfl, hb⟩)
      go_ret
      exact ⟨rfl, hb⟩

set_option maxHeartbeats 4000000 in
set_option maxRecDepth 100000 in
theorem short (w : World) (at_ b : List Int) (n : Int) (A1 A2 : Option Addr) (c1 c2 : Nat) (h1 : at_.length ≤ 300) (h2 : n ≤ 600) (h3 : b.length ≤ 3000) (hr1 : Kd.C (Kd.int .i64) w A1 at_.length at_) (hc1 : at_.length ≤ c1) (hr2 : Rb w A2 b) (hc2 : b.length ≤ c2) :
    Calls Try.prog 11 #[.slice A1 at_.length c1, .int .i64 n, .slice A2 b.length c2] w fun e w' => e = .returned (.bool true) ∧ Below w.heap.size w w' := by
  have hd1 : decide (300 < at_.length) = false := decide_eq_false (by omega)
  have hd2 : decide ((300 : Int) < (at_.length : Int)) = false := decide_eq_false (by omega)
  have hd3 : decide ((600 : Int) < n) = false := decide_eq_false (by omega)
  have hd4 : decide (3000 < b.length) = false := decide_eq_false (by omega)
  have hd5 : decide ((3000 : Int) < (b.length : Int)) = false := decide_eq_false (by omega)
  have H1 := Aside0.mk h1
  have H3 := Aside0.mk h3
  have HR1 := Aside0.mk hr1
  have HC1 := Aside0.mk hc1
  have HR2 := Aside0.mk hr2
  have HC2 := Aside0.mk hc2
  have HB := Aside0.mk (Below.refl w.heap.size w)
  obtain ⟨k1, e1⟩ := (bits_ev at_ n (by omega)).rounds
  have HE1 := Aside0.mk e1
  have HU := Aside0.mk (bits_u8 at_ n)
  have HBS := Aside0.mk (back_spec at_ n)
  have HXL := Aside0.mk (bitsSpec_len at_ n)
  have HP := Aside0.mk (apages b.length (by omega))
  have HFL := Aside0.mk (flat_all b)
  have hnl : 256 * nch b.length - b.length ≤ 255 ∧ b.length ≤ 256 * nch b.length ∧ nch b.length ≤ 12 := by unfold nch; omega
  have HNL := Aside0.mk hnl
  obtain ⟨x, ok, hx⟩ : ∃ x ok, bitsSpec at_ n = (x, ok) := ⟨_, _, rfl⟩
  rw [hx] at HE1 HU HBS HXL
  dsimp only at HU HBS HXL
  clear h1 h2 h3 hr1 hc1 hr2 hc2 e1 hnl hx
  cases ok with
  | false =>
    go_enter Try.func11, Try.ntmps11
    go_wp2_with (first
      | (go_at_call 26; refine (alloc_Bits.calls k1 A1 c1 at_ n x false _ HR1.out HC1.out HE1.out).mono ?_; rintro e w1 ⟨v, rfl, ho, hb⟩; have n1_ := Aside0.mk (below_step HB.out hb); clear HB; have HB := n1_; clear n1_; clear hb ho)
      | (go_at_call 31; refine (cut_c A2 c2 b _ (Kd.C_below HR2.out HB.out) HC2.out (by have := H3.out; omega)).mono ?_; rintro e w2 ⟨v, rfl, ho, hb⟩; have n1_ := Aside0.mk (below_step HB.out hb); clear HB; have HB := n1_; clear n1_; clear hb; obtain ⟨A4, c4, rfl, hl_, hr_⟩ := Kd.R_reads ho; have HR4 := Aside0.mk hr_; have HL4 := Aside0.mk hl_; clear ho hl_ hr_))
    rw [sectors_len b]
    go_loopw [11, 13] (fun v i wr => ∃ k : Nat, k ≤ nch b.length ∧ i = .int .i64 k ∧ Aside0 (Ob wr w2.heap.size v ((sectors b).take k).flatten) ∧ Aside0 (Below w2.heap.size w2 wr)) (fun _ i _ => nch b.length - (intOf i).toNat)
    case atStart => exact ⟨0, Nat.zero_le _, rfl, ⟨Kd.R_nil _ _ _ _ _⟩, ⟨Below.refl _ _⟩⟩
    case round =>
      obtain ⟨k, hk, rfl, HO, HW⟩ := hrel
      obtain ⟨A6, c6, hv6⟩ := Kd.R_slice HO.out
      subst hv6
      have hk12 : k ≤ 12 := by have := HNL.out; omega
      by_cases hlt : k < nch b.length
      · obtain ⟨ad, A7, c7, rfl, hx, hl7, hr7⟩ := sec_at HR4.out k hlt
        have hc := (HW.out.cell (World.block_lt_of_cell? w2 _ hx)).trans hx
        have HR7 := Aside0.mk (Kd.C_below hr7 HW.out)
        have HTL := Aside0.mk (take_len b k (by omega))
        clear hx hr7 hl7
        generalize hS : ((sectors b).take k).flatten = S at HO HTL
        have HS := Aside0.mk hS
        clear hS
        go_wp2_with (first
          | ((with_reducible refine gate_builtin (b := .append) (xs := #[.tmp 56, .tmp 60]) rfl ?_); at_builtin; refine Kd.R_append_rows (Kd.int .u8) (w0 := w2) w2.heap.size rfl (.tmp 56) (.tmp 60) 22 5 (.int .u8 0) 1 rfl Try.underlying22 info_u8 rfl (by decide) (by omega) _ S (sector b k) _ _ _ (fun _ => True) (fun _ => False) rfl rfl HO.out HR7.out (fun _ _ h => h) (fun _ h => h.elim) (fun _ _ => trivial) HW.out HW.out.size (by have := HTL.out; have := HNL.out; omega) ?_; intro v8 w5 ho hb hg hat; have HO8 := Aside0.mk ho; have HW8 := Aside0.mk hb; clear ho hb hg hat))
        go_roundw
        case rel => exact ⟨k + 1, by omega, by go_num, ⟨by rw [flat_snoc b k hlt, HS.out]; exact HO8.out⟩, HW8⟩
        case measure => simp [intOf]; omega
      · have hkn : k = nch b.length := by omega
        have hL : ((sectors b).take k).flatten = b ++ List.replicate (256 * nch b.length - b.length) 0 := by
          rw [hkn, List.take_of_length_le (by rw [sectors_len]; exact Nat.le_refl _)]
          exact HFL.out
        rw [hL] at HO ⊢
        have hz := HNL.out
        have hb3 := H3.out
        generalize 256 * nch b.length - b.length = z at HO hz ⊢
        have hll : (b ++ List.replicate z (0 : Int)).length = b.length + z := by simp
        have hbt : (b ++ List.replicate z (0 : Int)).take b.length = b := List.take_left
        have hbd : (b ++ List.replicate z (0 : Int)).drop b.length = List.replicate z 0 := List.drop_left
        obtain ⟨L, hLL⟩ : ∃ L, L = b ++ List.replicate z (0 : Int) := ⟨_, rfl⟩
        rw [← hLL] at HO hll hbt hbd ⊢
        have hrd := Kd.R_reads' HO.out
        have HRL := Aside0.mk hrd.2.2
        have HCL := Aside0.mk hrd.2.1
        have hcl : L.length ≤ c6 := hrd.2.1
        have HBT := Aside0.mk hbt
        have HBD := Aside0.mk hbd
        have HB2 := Aside0.mk (below_step HB.out HW.out)
        subst hkn
        generalize nch b.length = N at HP hz hk12 ⊢
        have HLZ := Aside0.mk hll
        have HLB := Aside0.mk (show b.length ≤ L.length by omega)
        clear hL hLL hbt hbd hrd hk hlt HR4 HL4 HFL HNL HO
        generalize hLm : L.length = m at HCL HLZ hll hcl ⊢
        have HLM := Aside0.mk hLm
        clear hLm
        have f1 : decide (m < b.length) = false := decide_eq_false (by omega)
        have f2 : decide ((m : Int) < (b.length : Int)) = false := decide_eq_false (by omega)
        have f3 : wrap64 ((m : Int) - (b.length : Int)) = (z : Int) := by rw [w64 (by omega) (by omega)]; omega
        have f9 : IntKind.i64.wrap ((m : Int) - (b.length : Int)) = (z : Int) := by rw [IntWalk.i64_in _ (by omega)]; omega
        have f4 : decide ((255 : Int) < (z : Int)) = false := decide_eq_false (by omega)
        have f5 : (b.length : Int) ≤ (c6 : Int) := by omega
        have f6 : (0 : Int) ≤ (b.length : Int) := by omega
        have f7 : (b.length : Int) ≤ (m : Int) := by omega
        have HZ := Aside0.mk hz
        clear hz hb3 hll hcl hk12
        go_wp2_with (first
          | (go_at_call 33; refine (alloc_Pages.calls _ _ _ HP.out).mono ?_; rintro e w' ⟨rfl, hd⟩; have hb := Drawn0.below hd; have n1_ := Aside0.mk (below_step HB2.out hb); clear HB2; have HB2 := n1_; clear n1_; have n2_ := Aside0.mk (Kd.C_below HRL.out hb); clear HRL; have HRL := n2_; clear n2_; clear hb hd)
          | (go_at_call 18; refine (Same0.same_n A6 c6 b.length (L.take b.length) A2 c2 b.length b _ (Rb.take HRL.out b.length HLB.out) (by rw [HBT.out]) (by have := HCL.out; have := HLZ.out; omega) (Kd.C_below HR2.out HB2.out) rfl HC2.out (by have := H3.out; omega)).mono ?_; rintro e w9 ⟨rfl, hd⟩; rw [HBT.out]; have hb := Drawn0.below hd; have n1_ := Aside0.mk (below_step HB2.out hb); clear HB2; have HB2 := n1_; clear n1_; have n2_ := Aside0.mk (Kd.C_below HRL.out hb); clear HRL; have HRL := n2_; clear n2_; clear hb hd))
        obtain ⟨i0, hi, hz0, hz1, hz2⟩ := info_parts info_u8
        obtain ⟨A8, hcut, hA8⟩ := print_cut (P := Try.prog) 22 5 .i64 Try.underlying22 hi hz1 A6 m c6 b.length (by have := HLZ.out; omega)
        have HA8 := Aside0.mk hA8
        have e8 : m - b.length = z := by have := HLZ.out; omega
        rw [e8] at hcut
        have HE8 := Aside0.mk e8
        clear hA8 hi hz0 hz1 hz2 e8
        have hmk := print_make (P := Try.prog) 22 5 .u8 1 Try.underlying22 info_u8 (by omega) z (by have := HZ.out; omega)
        have HB3 := Aside0.mk (below_drew1 HB2.out)
        have HR8 := Aside0.mk (Kd.C_drew HRL.out)
        clear HB2 HRL
        go_region_held3 (fun _ => True) (exact trivial) (first
          | (go_at_call 18; refine (Same0.same_t A8 (c6 - b.length) z (L.drop b.length) _ z z (List.replicate z 0) _ (drop_reads HA8.out HLM.out HE8.out HCL.out (Kd.C_alloc HR8.out _)) (by rw [HBD.out, List.length_replicate]) (by have := HCL.out; have := HE8.out; omega) (made_reads _ z (by have := HZ.out; omega)) (by rw [List.length_replicate]) (Nat.le_refl _) (by have := HZ.out; omega) HBD.out).mono ?_; rintro e w11 ⟨rfl, hd⟩; have hb := Drawn0.below hd; have HB5 := Aside0.mk (below_step (below_alloc HB3.out _) hb); clear hb hd)
          | (go_at_call 20; refine (AllocLive.live_c _).mono ?_; rintro e w12 ⟨rfl, hb⟩; have HF := Aside0.mk (below_step HB5.out hb); clear hb))
        clear hcut hmk
        go_wp2
        go_ret
        exact ⟨rfl, HF.out⟩
  | true =>
    obtain ⟨k2, e2⟩ := (list_ev x n HU.out (by have := HXL.out; omega)).rounds
    rw [HBS.out rfl] at e2
    have HE2 := Aside0.mk e2
    obtain ⟨k3, e3⟩ := (sameInts_ev at_ at_ (by have := H1.out; omega)).rounds
    rw [decide_eq_true rfl] at e3
    have HE3 := Aside0.mk e3
    clear e2 e3
    go_enter Try.func11, Try.ntmps11
    go_wp2_with (first
      | (go_at_call 26; refine (alloc_Bits.calls k1 A1 c1 at_ n x true _ HR1.out HC1.out HE1.out).mono ?_; rintro e w1 ⟨v, rfl, ho, hb⟩; have n1_ := Aside0.mk (below_step HB.out hb); clear HB; have HB := n1_; clear n1_; clear hb; obtain ⟨Ax, cx, rfl, hl_, hr_⟩ := Ob.reads ho; have HRx := Aside0.mk hr_; have HLx := Aside0.mk hl_; clear ho hl_ hr_)
      | (go_at_call 28; refine (alloc_List.calls k2 Ax cx x n at_ true _ HRx.out HLx.out HE2.out).mono ?_; rintro e w2 ⟨v, rfl, ho, hb⟩; have n1_ := Aside0.mk (below_step HB.out hb); clear HB; have HB := n1_; clear n1_; clear hb; obtain ⟨A5, c5, rfl, hl_, hr_⟩ := Kd.R_reads ho; have HR5 := Aside0.mk hr_; have HL5 := Aside0.mk hl_; clear ho hl_ hr_)
      | (go_at_call 23; refine (hanaperref01_SameInts.calls k3 A5 c5 at_ A1 c1 at_ true _ HR5.out HL5.out (Kd.C_below HR1.out HB.out) HC1.out HE3.out).mono ?_; rintro e w3 ⟨rfl, hd⟩; have hb := Drawn0.below hd; have n1_ := Aside0.mk (below_step HB.out hb); clear HB; have HB := n1_; clear n1_; clear hb hd)
      | (go_at_call 31; refine (cut_c A2 c2 b _ (Kd.C_below HR2.out HB.out) HC2.out (by have := H3.out; omega)).mono ?_; rintro e w2 ⟨v, rfl, ho, hb⟩; have n1_ := Aside0.mk (below_step HB.out hb); clear HB; have HB := n1_; clear n1_; clear hb; obtain ⟨A4, c4, rfl, hl_, hr_⟩ := Kd.R_reads ho; have HR4 := Aside0.mk hr_; have HL4 := Aside0.mk hl_; clear ho hl_ hr_))
    rw [sectors_len b]
    go_loopw [11, 13] (fun v i wr => ∃ k : Nat, k ≤ nch b.length ∧ i = .int .i64 k ∧ Aside0 (Ob wr w2.heap.size v ((sectors b).take k).flatten) ∧ Aside0 (Below w2.heap.size w2 wr)) (fun _ i _ => nch b.length - (intOf i).toNat)
    case atStart => exact ⟨0, Nat.zero_le _, rfl, ⟨Kd.R_nil _ _ _ _ _⟩, ⟨Below.refl _ _⟩⟩
    case round =>
      obtain ⟨k, hk, rfl, HO, HW⟩ := hrel
      obtain ⟨A6, c6, hv6⟩ := Kd.R_slice HO.out
      subst hv6
      have hk12 : k ≤ 12 := by have := HNL.out; omega
      by_cases hlt : k < nch b.length
      · obtain ⟨ad, A7, c7, rfl, hx, hl7, hr7⟩ := sec_at HR4.out k hlt
        have hc := (HW.out.cell (World.block_lt_of_cell? w2 _ hx)).trans hx
        have HR7 := Aside0.mk (Kd.C_below hr7 HW.out)
        have HTL := Aside0.mk (take_len b k (by omega))
        clear hx hr7 hl7
        generalize hS : ((sectors b).take k).flatten = S at HO HTL
        have HS := Aside0.mk hS
        clear hS
        go_wp2_with (first
          | ((with_reducible refine gate_builtin (b := .append) (xs := #[.tmp 56, .tmp 60]) rfl ?_); at_builtin; refine Kd.R_append_rows (Kd.int .u8) (w0 := w2) w2.heap.size rfl (.tmp 56) (.tmp 60) 22 5 (.int .u8 0) 1 rfl Try.underlying22 info_u8 rfl (by decide) (by omega) _ S (sector b k) _ _ _ (fun _ => True) (fun _ => False) rfl rfl HO.out HR7.out (fun _ _ h => h) (fun _ h => h.elim) (fun _ _ => trivial) HW.out HW.out.size (by have := HTL.out; have := HNL.out; omega) ?_; intro v8 w5 ho hb hg hat; have HO8 := Aside0.mk ho; have HW8 := Aside0.mk hb; clear ho hb hg hat))
        go_roundw
        case rel => exact ⟨k + 1, by omega, by go_num, ⟨by rw [flat_snoc b k hlt, HS.out]; exact HO8.out⟩, HW8⟩
        case measure => simp [intOf]; omega
      · have hkn : k = nch b.length := by omega
        have hL : ((sectors b).take k).flatten = b ++ List.replicate (256 * nch b.length - b.length) 0 := by
          rw [hkn, List.take_of_length_le (by rw [sectors_len]; exact Nat.le_refl _)]
          exact HFL.out
        rw [hL] at HO ⊢
        have hz := HNL.out
        have hb3 := H3.out
        generalize 256 * nch b.length - b.length = z at HO hz ⊢
        have hll : (b ++ List.replicate z (0 : Int)).length = b.length + z := by simp
        have hbt : (b ++ List.replicate z (0 : Int)).take b.length = b := List.take_left
        have hbd : (b ++ List.replicate z (0 : Int)).drop b.length = List.replicate z 0 := List.drop_left
        obtain ⟨L, hLL⟩ : ∃ L, L = b ++ List.replicate z (0 : Int) := ⟨_, rfl⟩
        rw [← hLL] at HO hll hbt hbd ⊢
        have hrd := Kd.R_reads' HO.out
        have HRL := Aside0.mk hrd.2.2
        have HCL := Aside0.mk hrd.2.1
        have hcl : L.length ≤ c6 := hrd.2.1
        have HBT := Aside0.mk hbt
        have HBD := Aside0.mk hbd
        have HB2 := Aside0.mk (below_step HB.out HW.out)
        subst hkn
        generalize nch b.length = N at HP hz hk12 ⊢
        have HLZ := Aside0.mk hll
        have HLB := Aside0.mk (show b.length ≤ L.length by omega)
        clear hL hLL hbt hbd hrd hk hlt HR4 HL4 HFL HNL HO
        generalize hLm : L.length = m at HCL HLZ hll hcl ⊢
        have HLM := Aside0.mk hLm
        clear hLm
        have f1 : decide (m < b.length) = false := decide_eq_false (by omega)
        have f2 : decide ((m : Int) < (b.length : Int)) = false := decide_eq_false (by omega)
        have f3 : wrap64 ((m : Int) - (b.length : Int)) = (z : Int) := by rw [w64 (by omega) (by omega)]; omega
        have f9 : IntKind.i64.wrap ((m : Int) - (b.length : Int)) = (z : Int) := by rw [IntWalk.i64_in _ (by omega)]; omega
        have f4 : decide ((255 : Int) < (z : Int)) = false := decide_eq_false (by omega)
        have f5 : (b.length : Int) ≤ (c6 : Int) := by omega
        have f6 : (0 : Int) ≤ (b.length : Int) := by omega
        have f7 : (b.length : Int) ≤ (m : Int) := by omega
        have HZ := Aside0.mk hz
        clear hz hb3 hll hcl hk12
        go_wp2_with (first
          | (go_at_call 33; refine (alloc_Pages.calls _ _ _ HP.out).mono ?_; rintro e w' ⟨rfl, hd⟩; have hb := Drawn0.below hd; have n1_ := Aside0.mk (below_step HB2.out hb); clear HB2; have HB2 := n1_; clear n1_; have n2_ := Aside0.mk (Kd.C_below HRL.out hb); clear HRL; have HRL := n2_; clear n2_; clear hb hd)
          | (go_at_call 18; refine (Same0.same_n A6 c6 b.length (L.take b.length) A2 c2 b.length b _ (Rb.take HRL.out b.length HLB.out) (by rw [HBT.out]) (by have := HCL.out; have := HLZ.out; omega) (Kd.C_below HR2.out HB2.out) rfl HC2.out (by have := H3.out; omega)).mono ?_; rintro e w9 ⟨rfl, hd⟩; rw [HBT.out]; have hb := Drawn0.below hd; have n1_ := Aside0.mk (below_step HB2.out hb); clear HB2; have HB2 := n1_; clear n1_; have n2_ := Aside0.mk (Kd.C_below HRL.out hb); clear HRL; have HRL := n2_; clear n2_; clear hb hd))
        obtain ⟨i0, hi, hz0, hz1, hz2⟩ := info_parts info_u8
        obtain ⟨A8, hcut, hA8⟩ := print_cut (P := Try.prog) 22 5 .i64 Try.underlying22 hi hz1 A6 m c6 b.length (by have := HLZ.out; omega)
        have HA8 := Aside0.mk hA8
        have e8 : m - b.length = z := by have := HLZ.out; omega
        rw [e8] at hcut
        have HE8 := Aside0.mk e8
        clear hA8 hi hz0 hz1 hz2 e8
        have hmk := print_make (P := Try.prog) 22 5 .u8 1 Try.underlying22 info_u8 (by omega) z (by have := HZ.out; omega)
        have HB3 := Aside0.mk (below_drew1 HB2.out)
        have HR8 := Aside0.mk (Kd.C_drew HRL.out)
        clear HB2 HRL
        go_region_held3 (fun _ => True) (exact trivial) (first
          | (go_at_call 18; refine (Same0.same_t A8 (c6 - b.length) z (L.drop b.length) _ z z (List.replicate z 0) _ (drop_reads HA8.out HLM.out HE8.out HCL.out (Kd.C_alloc HR8.out _)) (by rw [HBD.out, List.length_replicate]) (by have := HCL.out; have := HE8.out; omega) (made_reads _ z (by have := HZ.out; omega)) (by rw [List.length_replicate]) (Nat.le_refl _) (by have := HZ.out; omega) HBD.out).mono ?_; rintro e w11 ⟨rfl, hd⟩; have hb := Drawn0.below hd; have HB5 := Aside0.mk (below_step (below_alloc HB3.out _) hb); clear hb hd)
          | (go_at_call 20; refine (AllocLive.live_c _).mono ?_; rintro e w12 ⟨rfl, hb⟩; have HF := Aside0.mk (below_step HB5.out hb); clear hb))
        clear hcut hmk
        go_wp2
        go_ret
        exact ⟨rfl, HF.out⟩
theorem walk (w : World) (A1 : Option Addr) (c1 : Nat) (at_ : List Int) (hr1 : Kd.C (Kd.int .i64) w A1 at_.length at_) (hc1 : at_.length ≤ c1) (_ : ∀ x ∈ at_, (Lit.int .i64 x).wf = true) (n : Int) (_ : (Lit.int .i64 n).wf = true) (A2 : Option Addr) (c2 : Nat) (b : List Int) (hr2 : Rb w A2 b) (hc2 : b.length ≤ c2) (_ : ∀ x ∈ b, (Lit.int .u8 x).wf = true) :
    Calls Try.prog 11 #[.slice A1 at_.length c1, .int .i64 n, .slice A2 b.length c2] w fun e w' => e = .returned (.bool true) ∧ Below w.heap.size w w' := by
  by_cases h : 300 < at_.length ∨ 600 < n ∨ 3000 < b.length
  · exact long w at_ b n A1 A2 c1 c2 h
  · exact short w at_ b n A1 A2 c1 c2 (by omega) (by omega) (by omega) hr1 hc1 hr2 hc2
end Go.Proofs.Ytobljmgoengofaa.AllocBack
