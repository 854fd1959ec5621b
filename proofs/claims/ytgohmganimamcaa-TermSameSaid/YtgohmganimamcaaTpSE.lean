/- Own and printed texts, laid together. -/
import Derived.Test.YtgohmganimamcaaTpSC
import Derived.Test.YtgohmganimamcaaTpSD
import Derived.Deep.RegionLaw
import Derived.Deep.DeepCutAuto
/- The walks of a reader's Num, Count and Text. -/
namespace Go.Proofs.Ytgohmganimamcaa.Tlv
open Go.Proofs.Ytgohmganimamcaa.Base Go.Proofs.Ytgohmganimamcaa.TlvPlain Go.RowKit Go.Proofs.YtgohmganimamcaaW.PrintWords Go.Proofs.YtgohmganimamcaaW.PrintLast Go.Proofs.YtgohmganimamcaaW.PrintMore

theorem take1_cons (x : Int) (r : List Int) : takeO (some (x :: r)) 1 = ([x], some r) := by
  simp only [takeO]
  rw [if_pos (by rw [List.length_cons]; omega)]
  rfl
set_option maxHeartbeats 1600000 in
set_option maxRecDepth 100000 in
theorem num_none (w0 w : World) (g : Nat) (st : Option (List Int)) (h : RdO w0 w g st) (hB : Below w0.heap.size w0 w) (hst : takeO st 1 = ([], none)) :
    Calls Try.prog 71 #[.pointer (some ⟨g, 0, none⟩)] w fun e w' => e = .returned (.int .u64 0) ∧ Left w0 w w' g none := by
  have HS := Aside0.mk h
  have HB := Aside0.mk hB
  have E1 := Aside0.mk hst
  clear h hB hst
  go_enter Try.func71, Try.ntmps71
  go_wp2_with (first
    | (go_at_call 69; refine (takeO_ _ _ _ _ _ HS.out HB.out).mono ?_; rintro e w1 ⟨v, rfl, ho, hl⟩; rw [E1.out] at ho hl; have HL := Aside0.mk hl; clear ho hl)
    | (go_at_call 70; refine (okO _ _ _ _ HL.out.1).mono ?_; rintro e w' ⟨rfl, rfl⟩)
    | (go_at_call 80; refine (failO _ _ _ _ HL.out.1 HL.out.2.1).mono ?_; rintro e w2 ⟨rfl, hf⟩; have HF := Aside0.mk hf; clear hf))
  go_ret
  exact ⟨rfl, HL.out.trans HF.out⟩

set_option maxHeartbeats 1600000 in
set_option maxRecDepth 100000 in
theorem num_wide (w0 w : World) (g : Nat) (x : Int) (r : List Int) (h : RdO w0 w g (some (x :: r))) (hB : Below w0.heap.size w0 w) (hx : 8 < x) :
    Calls Try.prog 71 #[.pointer (some ⟨g, 0, none⟩)] w fun e w' => e = .returned (.int .u64 0) ∧ Left w0 w w' g none := by
  have HS := Aside0.mk h
  have HB := Aside0.mk hB
  have E1 := Aside0.mk (take1_cons x r)
  have hd : decide (8 < x) = true := decide_eq_true hx
  clear h hB hx
  go_enter Try.func71, Try.ntmps71
  go_wp2_with (first
    | (go_at_call 69; refine (takeO_ _ _ _ _ _ HS.out HB.out).mono ?_; rintro e w1 ⟨v, rfl, ho, hl⟩; rw [E1.out] at ho hl; have HL := Aside0.mk hl; obtain ⟨A, c, rfl, hlc, hrd⟩ := Ob.reads ho; obtain ⟨ad, rfl, hc0⟩ := Rb.at0 hrd; clear ho hl hrd hlc)
    | (go_at_call 70; refine (okO _ _ _ _ HL.out.1).mono ?_; rintro e w' ⟨rfl, rfl⟩)
    | (go_at_call 80; refine (failO _ _ _ _ HL.out.1 HL.out.2.1).mono ?_; rintro e w2 ⟨rfl, hf⟩; have HF := Aside0.mk hf; clear hf))
  go_ret
  exact ⟨rfl, HL.out.trans HF.out⟩

set_option maxHeartbeats 1600000 in
set_option maxRecDepth 100000 in
theorem num_short (w0 w : World) (g : Nat) (x : Int) (r : List Int) (h : RdO w0 w g (some (x :: r))) (hB : Below w0.heap.size w0 w) (hx0 : 0 ≤ x) (hx : x ≤ 8) (hl : (r.length : Int) < x) :
    Calls Try.prog 71 #[.pointer (some ⟨g, 0, none⟩)] w fun e w' => e = .returned (.int .u64 0) ∧ Left w0 w w' g none := by
  have HS := Aside0.mk h
  have HB := Aside0.mk hB
  have E1 := Aside0.mk (take1_cons x r)
  have E2 := Aside0.mk (show takeO (some r) x = ([], none) by simp only [takeO]; rw [if_neg (by omega)])
  have hd : decide (8 < x) = false := decide_eq_false (by omega)
  clear h hB hl
  go_enter Try.func71, Try.ntmps71
  go_wp2_with (fail)
  refine (takeO_ _ _ _ _ _ HS.out HB.out).mono ?_; rintro e w1 ⟨v, rfl, ho, hl⟩; rw [E1.out] at ho hl; have HL := Aside0.mk hl; obtain ⟨A, c, rfl, hlc, hrd⟩ := Ob.reads ho; obtain ⟨ad, rfl, hc0⟩ := Rb.at0 hrd; clear ho hl hrd hlc
  go_wp2_with (first
    | (go_at_call 70; refine (okO _ _ _ _ HL.out.1).mono ?_; rintro e w' ⟨rfl, rfl⟩)
    | (go_at_call 80; refine (failO _ _ _ _ HL.out.1 HL.out.2.1).mono ?_; rintro e w2 ⟨rfl, hf⟩; have HF := Aside0.mk hf; clear hf))
  refine (takeO_ _ _ _ _ _ HL.out.1 HL.out.2.1).mono ?_; rintro e w2 ⟨v, rfl, ho, hl⟩; rw [E2.out] at ho hl; have HL2 := Aside0.mk (HL.out.trans hl); clear HL ho hl
  go_wp2_with (first
    | (go_at_call 70; refine (okO _ _ _ _ HL2.out.1).mono ?_; rintro e w' ⟨rfl, rfl⟩)
    | (go_at_call 80; refine (failO _ _ _ _ HL2.out.1 HL2.out.2.1).mono ?_; rintro e w2 ⟨rfl, hf⟩; have HF := Aside0.mk hf; clear hf))
  go_ret
  exact ⟨rfl, HL2.out.trans HF.out⟩

set_option maxHeartbeats 1600000 in
set_option maxRecDepth 100000 in
theorem num_zero (w0 w : World) (g : Nat) (x y : Int) (r : List Int) (h : RdO w0 w g (some (x :: y :: r))) (hB : Below w0.heap.size w0 w) (hx0 : 0 < x) (hx : x ≤ 8) (hl : x ≤ (r.length : Int) + 1) (hy : y = 0) :
    Calls Try.prog 71 #[.pointer (some ⟨g, 0, none⟩)] w fun e w' => e = .returned (.int .u64 0) ∧ Left w0 w w' g none := by
  subst hy
  have HS := Aside0.mk h
  have HB := Aside0.mk hB
  have E1 := Aside0.mk (take1_cons x (0 :: r))
  have E2 := Aside0.mk (show takeO (some (0 :: r)) x = (0 :: r.take (x.toNat - 1), some ((0 :: r).drop x.toNat)) by
    simp only [takeO]
    rw [if_pos (by rw [List.length_cons]; omega)]
    obtain ⟨m, hm⟩ : ∃ m, x.toNat = m + 1 := ⟨x.toNat - 1, by omega⟩
    rw [hm]; rfl)
  have hd : decide (8 < x) = false := decide_eq_false (by omega)
  clear h hB hl
  go_enter Try.func71, Try.ntmps71
  go_wp2_with (fail)
  refine (takeO_ _ _ _ _ _ HS.out HB.out).mono ?_; rintro e w1 ⟨v, rfl, ho, hl⟩; rw [E1.out] at ho hl; have HL := Aside0.mk hl; obtain ⟨A, c, rfl, hlc, hrd⟩ := Ob.reads ho; obtain ⟨ad, rfl, hc0⟩ := Rb.at0 hrd; clear ho hl hrd hlc
  go_wp2_with (first
    | (go_at_call 70; refine (okO _ _ _ _ HL.out.1).mono ?_; rintro e w' ⟨rfl, rfl⟩))
  refine (takeO_ _ _ _ _ _ HL.out.1 HL.out.2.1).mono ?_; rintro e w2 ⟨v, rfl, ho, hl⟩; rw [E2.out] at ho hl; have HL2 := Aside0.mk (HL.out.trans hl); obtain ⟨A2, c2, rfl, hlc, hrd⟩ := Ob.reads ho; obtain ⟨ad2, rfl, hc2⟩ := Rb.at0 hrd; clear HL ho hl hlc hrd
  have hl0 : decide (0 < (0 :: r.take (x.toNat - 1)).length) = true := decide_eq_true (by simp)
  generalize (0 :: r.take (x.toNat - 1)).length = nn at hl0 ⊢
  have hl2 : 0 < nn := of_decide_eq_true hl0
  have hl1 : decide (0 < (nn : Int)) = true := decide_eq_true (by omega)
  go_wp2_with (first
    | (go_at_call 70; refine (okO _ _ _ _ HL2.out.1).mono ?_; rintro e w' ⟨rfl, rfl⟩)
    | (go_at_call 80; refine (failO _ _ _ _ HL2.out.1 HL2.out.2.1).mono ?_; rintro e w2 ⟨rfl, hf⟩; have HF := Aside0.mk hf; clear hf))
  go_ret
  exact ⟨rfl, HL2.out.trans HF.out⟩

/-- One round more: the value of one byte more. -/
theorem value_step {l : List Int} (hu : U8 l) (h8 : l.length ≤ 8) (i : Nat) (hi : i < l.length) :
    Go.bits .or .u64 (IntKind.u64.wrap (valueB (l.take i) * 256)) (IntKind.u64.wrap (rd l (i : Int))) = valueB (l.take (i + 1)) := by
  have h1 := valueB_range (hu.take i)
  rw [List.length_take, Nat.min_eq_left (by omega)] at h1
  have h2 := valueB_u64 (hu.take (i + 1)) (by rw [List.length_take]; omega)
  have hx := hu _ (List.getElem_mem hi)
  rw [rd_nat' l i hi, List.take_succ_eq_append_getElem hi, valueB_snoc]
  rw [List.take_succ_eq_append_getElem hi, valueB_snoc] at h2
  have hb : valueB (l.take i) * 256 + 255 ≤ 18446744073709551615 := by
    have key : ∀ n : Nat, n ≤ 7 → (256 : Int) ^ n ≤ 72057594037927936 := by
      intro n hn
      have : n = 0 ∨ n = 1 ∨ n = 2 ∨ n = 3 ∨ n = 4 ∨ n = 5 ∨ n = 6 ∨ n = 7 := by omega
      rcases this with rfl | rfl | rfl | rfl | rfl | rfl | rfl | rfl <;> decide +kernel
    have := key i (by omega)
    omega
  rw [IntWalk.u64_in (valueB (l.take i) * 256) (by omega), IntWalk.u64_in l[i] (by omega)]
  exact or_byte _ _ h1.1 hb hx.1 hx.2

set_option maxHeartbeats 3200000 in
set_option maxRecDepth 100000 in
theorem num_good (w0 w : World) (g : Nat) (x : Int) (r : List Int) (h : RdO w0 w g (some (x :: r))) (hB : Below w0.heap.size w0 w) (hx0 : 0 ≤ x) (hx : x ≤ 8) (hl : x ≤ (r.length : Int)) (hy : ¬ (0 < x ∧ r.getD 0 0 = 0)) :
    Calls Try.prog 71 #[.pointer (some ⟨g, 0, none⟩)] w fun e w' => e = .returned (.int .u64 (valueB (r.take x.toNat))) ∧ Left w0 w w' g (some (r.drop x.toNat)) := by
  have HS := Aside0.mk h
  have HB := Aside0.mk hB
  have HU := Aside0.mk ((h.u8.1.tail).take x.toNat)
  have E1 := Aside0.mk (take1_cons x r)
  have E2 := Aside0.mk (show takeO (some r) x = (r.take x.toNat, some (r.drop x.toNat)) by simp only [takeO]; rw [if_pos ⟨hx0, hl⟩])
  obtain ⟨l, hL⟩ : ∃ l, l = r.take x.toNat := ⟨_, rfl⟩
  have hlen : l.length = x.toNat := by rw [hL, List.length_take]; omega
  have hb : (decide (0 < l.length) && (rd l 0 == 0)) = false := by
    rw [Bool.and_eq_false_iff]
    by_cases h0 : 0 < x
    · right
      rw [beq_eq_false_iff_ne]
      intro e
      apply hy
      refine ⟨h0, ?_⟩
      rw [hL] at e
      obtain ⟨m, hm⟩ : ∃ m, x.toNat = m + 1 := ⟨x.toNat - 1, by omega⟩
      cases r with
      | nil => simp at hl; omega
      | cons y r => simpa [rd, hm] using e
    · left
      exact decide_eq_false (by omega)
  rw [← hL] at HU E2 ⊢
  have h8 : l.length ≤ 8 := by omega
  have hd : decide (8 < x) = false := decide_eq_false (by omega)
  clear h hB hl hy hL hlen
  go_enter Try.func71, Try.ntmps71
  go_wp2_with (fail)
  refine (takeO_ _ _ _ _ _ HS.out HB.out).mono ?_; rintro e w1 ⟨v, rfl, ho, hl⟩; rw [E1.out] at ho hl; have HL := Aside0.mk hl; obtain ⟨A, c, rfl, hlc, hrd⟩ := Ob.reads ho; obtain ⟨ad, rfl, hc0⟩ := Rb.at0 hrd; clear ho hl hrd hlc
  go_wp2_with (first
    | (go_at_call 70; refine (okO _ _ _ _ HL.out.1).mono ?_; rintro e w' ⟨rfl, rfl⟩))
  refine (takeO_ _ _ _ _ _ HL.out.1 HL.out.2.1).mono ?_; rintro e w2 ⟨v, rfl, ho, hl⟩; rw [E2.out] at ho hl; have HL2 := Aside0.mk (HL.out.trans hl); obtain ⟨A2, c2, rfl, hlc, hrd⟩ := Ob.reads ho; have HRD := Aside0.mk hrd; clear HL ho hl hlc hrd hx0
  by_cases hz : 0 < l.length
  · have hzi : (0 : Int) < (l.length : Int) := by omega
    obtain ⟨ad2, hA2, hc2⟩ := Kd.at_int HRD.out 0 (Int.le_refl _) hzi
    subst hA2
    have hz0 : decide (0 < l.length) = true := decide_eq_true hz
    have hz1 : decide (0 < (l.length : Int)) = true := decide_eq_true (by omega)
    have hb1 : (rd l 0 == 0) = false := by rw [hz0, Bool.true_and] at hb; exact hb
    have hc3 : w2.cell? ad2 = some (.int .u8 (rd l 0)) := by simpa [Addr.add] using hc2
    clear hb hc2
    go_wp2_with (first
      | (go_at_call 70; refine (okO _ _ _ _ HL2.out.1).mono ?_; rintro e w' ⟨rfl, rfl⟩))
    clear hz0 hz1 hb1 hc3 hzi
    go_loop [5, 45] (fun n i => ∃ k : Nat, k ≤ l.length ∧ i = .int .i64 k ∧ n = .int .u64 (valueB (l.take k))) (fun _ i => l.length - (intOf i).toNat)
    case atStart => exact ⟨0, Nat.zero_le _, rfl, rfl⟩
    case round =>
      obtain ⟨k, hk, rfl, rfl⟩ := hrel
      by_cases hlt : k < l.length
      · obtain ⟨ad3, hA3, hc3⟩ := Kd.at_int HRD.out (k : Int) (Int.natCast_nonneg k) (by omega)
        injection hA3 with hA3
        subst hA3
        rw [Int.toNat_natCast] at hc3
        have HV := Aside0.mk (value_step HU.out h8 k hlt)
        go_wp2
        go_round
        case rel => exact ⟨k + 1, by omega, by go_num, by rw [← HV.out]⟩
        case measure => simp [intOf]; omega
      · go_wp2
        go_ret
        have hkl : k = l.length := by omega
        exact ⟨by rw [hkl, List.take_length]; rfl, HL2.out⟩
  · have hz0 : decide (0 < l.length) = false := decide_eq_false hz
    have hl0 : l = [] := List.length_eq_zero_iff.1 (by omega)
    subst hl0
    clear hb hz hz0 h8
    have hf0 : decide ((0 : Int) < 0) = false := rfl
    go_wp2_with (first
      | (go_at_call 70; refine (okO _ _ _ _ HL2.out.1).mono ?_; rintro e w' ⟨rfl, rfl⟩))
    go_loop [5, 45] (fun n i => i = .int .i64 0 ∧ n = .int .u64 0) (fun _ _ => 0)
    case atStart => exact ⟨rfl, rfl⟩
    case round =>
      obtain ⟨rfl, rfl⟩ := hrel
      go_wp2
      go_ret
      exact ⟨rfl, HL2.out⟩

theorem numO_ (w0 w : World) (g : Nat) (st : Option (List Int)) (h : RdO w0 w g st) (hB : Below w0.heap.size w0 w) :
    Calls Try.prog 71 #[.pointer (some ⟨g, 0, none⟩)] w fun e w' => e = .returned (.int .u64 (numO st).1) ∧ Left w0 w w' g (numO st).2 := by
  match st, h with
  | none, h => exact num_none w0 w g none h hB rfl
  | some [], h => exact num_none w0 w g (some []) h hB rfl
  | some (x :: r), h =>
    have hx0 := h.u8.1.head.1
    simp only [numO]
    by_cases h1 : x > 8
    · rw [if_pos h1]; exact num_wide w0 w g x r h hB h1
    · rw [if_neg h1]
      by_cases h2 : (r.length : Int) < x
      · rw [if_pos h2]; exact num_short w0 w g x r h hB hx0 (by omega) h2
      · rw [if_neg h2]
        by_cases h3 : 0 < x ∧ r.getD 0 0 = 0
        · rw [if_pos h3]
          cases r with
          | nil => simp at h2; omega
          | cons y r => exact num_zero w0 w g x y r h hB h3.1 (by omega) (by simp at h2; omega) (by simpa using h3.2)
        · rw [if_neg h3]; exact num_good w0 w g x r h hB hx0 (by omega) (by omega) h3


set_option maxHeartbeats 1600000 in
set_option maxRecDepth 100000 in
theorem countO_ (w0 w : World) (g : Nat) (st : Option (List Int)) (most : Int) (h : RdO w0 w g st) (hB : Below w0.heap.size w0 w) (hm : most ≤ 9223372036854775807) :
    Calls Try.prog 81 #[.pointer (some ⟨g, 0, none⟩), .int .i64 most] w fun e w' => e = .returned (.int .i64 (countO st most).1) ∧ Left w0 w w' g (countO st most).2 := by
  have HS := Aside0.mk h
  have HB := Aside0.mk hB
  have hr := numO_range (st := st) (fun bs e => by subst e; exact h.u8.1)
  unfold countO
  obtain ⟨nv, hnv⟩ : ∃ nv, nv = (numO st).1 := ⟨_, rfl⟩
  rw [← hnv] at hr ⊢
  have HN := Aside0.mk hnv
  have HR := Aside0.mk hr
  have HM := Aside0.mk hm
  clear hm
  clear hr hnv h hB
  by_cases h1 : most < 0
  · rw [if_pos (Or.inl h1)]
    have hd : decide (most < 0) = true := decide_eq_true h1
    clear h1
    go_enter Try.func81, Try.ntmps81
    go_wp2_with (first
      | (go_at_call 71; refine (numO_ _ _ _ _ HS.out HB.out).mono ?_; rintro e w1 ⟨rfl, hl⟩; rw [← HN.out]; have HL := Aside0.mk hl; clear hl)
      | (go_at_call 80; refine (failO _ _ _ _ HL.out.1 HL.out.2.1).mono ?_; rintro e w2 ⟨rfl, hf⟩; have HF := Aside0.mk hf; clear hf))
    go_ret
    exact ⟨rfl, HL.out.trans HF.out⟩
  · have hd : decide (most < 0) = false := decide_eq_false h1
    have hw : IntKind.u64.wrap most = most := IntWalk.u64_in _ (by have := HM.out; omega)
    by_cases h2 : nv > most
    · rw [if_pos (Or.inr h2)]
      have hd2 : decide (most < nv) = true := decide_eq_true h2
      clear h1 h2
      go_enter Try.func81, Try.ntmps81
      go_wp2_with (first
        | (go_at_call 71; refine (numO_ _ _ _ _ HS.out HB.out).mono ?_; rintro e w1 ⟨rfl, hl⟩; rw [← HN.out]; have HL := Aside0.mk hl; clear hl)
        | (go_at_call 80; refine (failO _ _ _ _ HL.out.1 HL.out.2.1).mono ?_; rintro e w2 ⟨rfl, hf⟩; have HF := Aside0.mk hf; clear hf))
      go_ret
      exact ⟨rfl, HL.out.trans HF.out⟩
    · rw [if_neg (by omega)]
      have hd2 : decide (most < nv) = false := decide_eq_false h2
      have hv : wrap64 nv = nv := IntWalk.wrap64_in _ (by have := HM.out; have := HR.out; omega)
      clear h1 h2
      go_enter Try.func81, Try.ntmps81
      go_wp2_with (first
        | (go_at_call 71; refine (numO_ _ _ _ _ HS.out HB.out).mono ?_; rintro e w1 ⟨rfl, hl⟩; rw [← HN.out]; have HL := Aside0.mk hl; clear hl))
      go_ret
      exact ⟨by rw [← HN.out, hv]; rfl, HL.out⟩

set_option maxHeartbeats 800000 in
theorem textO_ (w0 w : World) (g : Nat) (st : Option (List Int)) (most : Int) (h : RdO w0 w g st) (hB : Below w0.heap.size w0 w) (hm : most ≤ 9223372036854775807) :
    Calls Try.prog 72 #[.pointer (some ⟨g, 0, none⟩), .int .i64 most] w fun e w' => ∃ v, e = .returned v ∧ Ob w' w.heap.size v (textO st most).1 ∧ Left w0 w w' g (textO st most).2 := by
  have HS := Aside0.mk h
  have HB := Aside0.mk hB
  have HM := Aside0.mk hm
  clear hm h hB
  go_enter Try.func72, Try.ntmps72
  go_wp2_with (first
    | (go_at_call 81; refine (countO_ _ _ _ _ _ HS.out HB.out HM.out).mono ?_; rintro e w1 ⟨rfl, hl⟩; have HL := Aside0.mk hl; clear hl)
    | (go_at_call 69; refine (takeO_ _ _ _ _ _ HL.out.1 HL.out.2.1).mono ?_; rintro e w2 ⟨v, rfl, ho, hl⟩; have HO := Aside0.mk ho; have HT := Aside0.mk hl; clear hl ho))
  go_ret
  exact ⟨_, rfl, Kd.R_lower HO.out HL.out.2.2.1, HL.out.trans HT.out⟩
end Go.Proofs.Ytgohmganimamcaa.Tlv
/- term.read walked: the next term of a reader. -/
namespace Go.Proofs.Ytgohmganimamcaa.Term
set_option linter.unusedVariables false
set_option linter.unusedSimpArgs false
open Go.RowKit Go.Proofs.Ytgohmganimamcaa.Base Go.Proofs.Ytgohmganimamcaa.TlvPlain Go.Proofs.Ytgohmganimamcaa.Lo Go.Proofs.Ytgohmganimamcaa.RdPlain Go.Proofs.Ytgohmganimamcaa.Aid Go.Proofs.Ytgohmganimamcaa.PZ Go.Proofs.YtgohmganimamcaaW.PrintWords Go.Proofs.YtgohmganimamcaaW.PrintLast Go.Proofs.YtgohmganimamcaaW.PrintMore
open Tlv (RdO takeO_ okO numO_ textO_)
theorem Blk.keep {w w' : World} {k g T : Nat} {cs : Array Value} (h : Blk w k T cs) (hk : KeepBut w w' g none) (hne : k ≠ g) : Blk w' k T cs := hk.blk h hne (by simp)
def NoU8 (v : Value) : Prop := ∀ n, v ≠ .int .u8 n
theorem no_u8_4 {a b c d : Value} (ha : NoU8 a) (hb : NoU8 b) (hc : NoU8 c) (hd : NoU8 d) (i : Nat) (v : Value) (h : (#[a, b, c, d] : Array Value)[i]? = some v) (n : Int) : v ≠ .int .u8 n := by
  match i, h with
  | 0, h => cases h; exact ha n
  | 1, h => cases h; exact hb n
  | 2, h => cases h; exact hc n
  | 3, h => cases h; exact hd n
theorem set4 {w : World} {g T : Nat} {a b c d : Value} (h : Blk w g T #[a, b, c, d]) (a' b' c' d' : Value) : Blk ((((w.setCell ⟨g, 0, none⟩ a').setCell ⟨g, 1, none⟩ b').setCell ⟨g, 2, none⟩ c').setCell ⟨g, 3, none⟩ d') g T #[a', b', c', d'] := by
  have h4 := blk_set (blk_set (blk_set (blk_set h 0 a') 1 b') 2 c') 3 d'
  simpa [Blk] using h4
theorem left_set4 {w0 w W : World} {g q T : Nat} {s : Option (List Int)} {a b c d : Value} (h : Tlv.Left w0 w W g s) (hq : Blk W q T #[a, b, c, d]) (ha : NoU8 a) (hb : NoU8 b) (hc : NoU8 c) (hd : NoU8 d) (hne : g ≠ q) (h0 : w0.heap.size ≤ q) (hw : w.heap.size ≤ q) (a' b' c' d' : Value) :
    Tlv.Left w0 w ((((W.setCell ⟨q, 0, none⟩ a').setCell ⟨q, 1, none⟩ b').setCell ⟨q, 2, none⟩ c').setCell ⟨q, 3, none⟩ d') g s :=
  ⟨h.1.keep (((((KeepBut.refl W q none).set_ 0 _).set_ 1 _).set_ 2 _).set_ 3 _) hne hq (no_u8_4 ha hb hc hd), below_set (below_set (below_set (below_set h.2.1 h0) h0) h0) h0, keep_far (keep_far (keep_far (keep_far h.2.2 hw _) hw _) hw _) hw _⟩
theorem left_set1 {w0 w W : World} {g q T j : Nat} {s : Option (List Int)} {a b c d : Value} (h : Tlv.Left w0 w W g s) (hq : Blk W q T #[a, b, c, d]) (ha : NoU8 a) (hb : NoU8 b) (hc : NoU8 c) (hd : NoU8 d) (hne : g ≠ q) (h0 : w0.heap.size ≤ q) (hw : w.heap.size ≤ q) (v : Value) :
    Tlv.Left w0 w (W.setCell ⟨q, j, none⟩ v) g s :=
  ⟨h.1.keep ((KeepBut.refl W q none).set_ j _) hne hq (no_u8_4 ha hb hc hd), below_set h.2.1 h0, keep_far h.2.2 hw _⟩
theorem left_below {w0 w W W1 : World} {g : Nat} {s : Option (List Int)} (h : Tlv.Left w0 w W g s) (hb : Below W.heap.size W W1) : Tlv.Left w0 w W1 g s := ⟨h.1.below hb, below_step h.2.1 hb, h.2.2.trans (KeepBut.of_below hb g none) (.inl rfl)⟩
/-- What a reading of a term leaves. -/
def ReadQ (w0 w : World) (g : Nat) (r : Option (ST × List Int)) (e : Ending) (w' : World) : Prop :=
  match r with
  | some (x, s) => ∃ v2 v3, e = .returned (.tuple #[.agg #[.int .i64 x.f0, .int .u64 x.f1, v2, v3], .bool true]) ∧ Ob w' w.heap.size v2 x.f2 ∧ Kd.R k26 26 w' w.heap.size (fun k => some k ≠ v2.ownBlock) v3 x.f3 ∧ Tlv.Left w0 w w' g (some s)
  | none => ∃ (y0 y1 : Int) (A2 : Option Addr) (n2 c2 : Nat) (A3 : Option Addr) (n3 c3 : Nat) (s : Option (List Int)), e = .returned (.tuple #[.agg #[.int .i64 y0, .int .u64 y1, .slice A2 n2 c2, .slice A3 n3 c3], .bool false]) ∧ Tlv.Left w0 w w' g s
theorem take1 (c : Int) (r : List Int) : takeO (some (c :: r)) 1 = ([c], some r) := by
  simp only [takeO]
  rw [if_pos (by rw [List.length_cons]; omega)]
  rfl
set_option maxHeartbeats 4000000 in
set_option maxRecDepth 100000 in
theorem read_fail (d : Nat) (hd : d ≤ 8) (w0 w : World) (g : Nat) (st : Option (List Int)) (h : RdO w0 w g st) (hB : Below w0.heap.size w0 w) (hst : takeO st 1 = ([], none)) :
    Calls Try.prog 50 #[.pointer (some ⟨g, 0, none⟩), .int .i64 (d : Int)] w (ReadQ w0 w g (readT d st)) := by
  have HE := Aside0.mk (show readT d st = none by
    cases d with
    | zero => rfl
    | succ d => rw [readT, hst])
  have HB := Aside0.mk (below_step hB (below_alloc (Below.refl w.heap.size w) (.cells #[.int .i64 0, .int .u64 0, .slice none 0 0, .slice none 0 0] 26)))
  have HS := Aside0.mk (h.below (below_alloc (Below.refl w.heap.size w) (.cells #[.int .i64 0, .int .u64 0, .slice none 0 0, .slice none 0 0] 26)))
  have H0 := Aside0.mk (show Blk (w.alloc (.cells #[.int .i64 0, .int .u64 0, .slice none 0 0, .slice none 0 0] 26)) w.heap.size 26 #[.int .i64 0, .int .u64 0, .slice none 0 0, .slice none 0 0] from blk_new _ _)
  have HG := Aside0.mk (show w0.heap.size ≤ w.heap.size ∧ g < w.heap.size from ⟨hB.size, h.blk.2.1⟩)
  have HKW := Aside0.mk (KeepBut.of_below (below_alloc (Below.refl w.heap.size w) (.cells #[.int .i64 0, .int .u64 0, .slice none 0 0, .slice none 0 0] 26)) g none)
  have hu26 := Try.underlying26
  have hu69 := Try.underlying69
  have H1 := Aside0.mk hst
  clear h hB hst hd
  go_enter Try.func50, Try.ntmps50
  go_wp2_with (first
    | (go_at_call 69; refine (takeO_ w0 _ g st 1 HS.out HB.out).mono ?_; rintro e w1 ⟨v, rfl, ho, hl⟩; rw [H1.out] at ho hl; obtain ⟨A5, c5, rfl, _, _⟩ := Ob.reads ho; have HL := Aside0.mk hl; have H01 := Aside0.mk (H0.out.keep hl.2.2 (by have := HG.out; omega)); have y0 := blk_frozen H01.out 0; have y1 := blk_frozen H01.out 1; have y2 := blk_frozen H01.out 2; have y3 := blk_frozen H01.out 3; have z0 := H01.out.cell 0; have z1 := H01.out.cell 1; have z2 := H01.out.cell 2; have z3 := H01.out.cell 3; simp only [List.getElem?_toArray, List.getElem?_cons_zero, List.getElem?_cons_succ] at z0 z1 z2 z3; clear ho hl)
    | (go_at_call 70; refine (okO w0 _ g none HL.out.1).mono ?_; rintro e w2 ⟨rfl, rfl⟩))
  refine bodyPost_ret (results_ct rfl _ _ w.heap.size 26 #[.int .i64 0, .int .u64 0, .slice none 0 0, .slice none 0 0] (0, 0) _ rfl (set4 H01.out _ _ _ _) Try.underlying26 rfl (by kernel_rfl)) rfl ?_
  rw [HE.out]
  exact ⟨0, 0, none, 0, 0, none, 0, 0, _, rfl, left_set4 ⟨HL.out.1, HL.out.2.1, HKW.out.trans HL.out.2.2 (.inl rfl)⟩ H01.out (by simp [NoU8]) (by simp [NoU8]) (by simp [NoU8]) (by simp [NoU8]) (by have := HG.out; omega) HG.out.1 (Nat.le_refl _) _ _ _ _⟩
set_option maxHeartbeats 4000000 in
set_option maxRecDepth 100000 in
theorem read_zero (w0 w : World) (g : Nat) (c : Int) (r : List Int) (h : RdO w0 w g (some (c :: r))) (hB : Below w0.heap.size w0 w) :
    Calls Try.prog 50 #[.pointer (some ⟨g, 0, none⟩), .int .i64 0] w (ReadQ w0 w g (readT 0 (some (c :: r)))) := by
  have HB := Aside0.mk (below_step hB (below_alloc (Below.refl w.heap.size w) (.cells #[.int .i64 0, .int .u64 0, .slice none 0 0, .slice none 0 0] 26)))
  have HS := Aside0.mk (h.below (below_alloc (Below.refl w.heap.size w) (.cells #[.int .i64 0, .int .u64 0, .slice none 0 0, .slice none 0 0] 26)))
  have H0 := Aside0.mk (show Blk (w.alloc (.cells #[.int .i64 0, .int .u64 0, .slice none 0 0, .slice none 0 0] 26)) w.heap.size 26 #[.int .i64 0, .int .u64 0, .slice none 0 0, .slice none 0 0] from blk_new _ _)
  have HG := Aside0.mk (show w0.heap.size ≤ w.heap.size ∧ g < w.heap.size from ⟨hB.size, h.blk.2.1⟩)
  have HKW := Aside0.mk (KeepBut.of_below (below_alloc (Below.refl w.heap.size w) (.cells #[.int .i64 0, .int .u64 0, .slice none 0 0, .slice none 0 0] 26)) g none)
  have hu26 := Try.underlying26
  have hu69 := Try.underlying69
  clear h hB
  go_enter Try.func50, Try.ntmps50
  go_wp2_with (first
    | (go_at_call 69; refine (takeO_ w0 _ g (some (c :: r)) 1 HS.out HB.out).mono ?_; rintro e w1 ⟨v, rfl, ho, hl⟩; rw [take1] at ho hl; obtain ⟨A5, c5, rfl, hl5, hr5⟩ := Ob.reads ho; obtain ⟨ad5, rfl, hc5⟩ := Rb.at0 hr5; have HL := Aside0.mk (show Tlv.Left w0 w w1 g (some r) from ⟨hl.1, hl.2.1, HKW.out.trans hl.2.2 (.inl rfl)⟩); have H01 := Aside0.mk (H0.out.keep hl.2.2 (by have := HG.out; omega)); have y0 := blk_frozen H01.out 0; have y1 := blk_frozen H01.out 1; have y2 := blk_frozen H01.out 2; have y3 := blk_frozen H01.out 3; have z0 := H01.out.cell 0; have z1 := H01.out.cell 1; have z2 := H01.out.cell 2; have z3 := H01.out.cell 3; simp only [List.getElem?_toArray, List.getElem?_cons_zero, List.getElem?_cons_succ] at z0 z1 z2 z3; clear ho hl hl5 hr5)
    | (go_at_call 70; refine (okO w0 _ g (some r) HL.out.1).mono ?_; rintro e w2 ⟨rfl, rfl⟩))
  refine bodyPost_ret (results_ct rfl _ _ w.heap.size 26 #[.int .i64 0, .int .u64 0, .slice none 0 0, .slice none 0 0] (0, 0) _ rfl (set4 H01.out _ _ _ _) Try.underlying26 rfl (by kernel_rfl)) rfl ?_
  rw [readT]
  exact ⟨0, 0, none, 0, 0, none, 0, 0, _, rfl, left_set4 HL.out H01.out (by simp [NoU8]) (by simp [NoU8]) (by simp [NoU8]) (by simp [NoU8]) (by have := HG.out; omega) HG.out.1 (Nat.le_refl _) _ _ _ _⟩
set_option maxHeartbeats 4000000 in
set_option maxRecDepth 100000 in
theorem read_no (d : Nat) (hd : d + 1 ≤ 8) (w0 w : World) (g : Nat) (c : Int) (r : List Int) (h : RdO w0 w g (some (c :: r))) (hB : Below w0.heap.size w0 w) (ht : thereB c = false) :
    Calls Try.prog 50 #[.pointer (some ⟨g, 0, none⟩), .int .i64 ((d + 1 : Nat) : Int)] w (ReadQ w0 w g (readT (d + 1) (some (c :: r)))) := by
  have HE := Aside0.mk (show readT (d + 1) (some (c :: r)) = none by
    rw [readT, take1]
    simp only [List.getD_cons_zero]
    rw [if_neg (by rw [ht]; decide)])
  have hsh := shape_c c
  simp only [shapeV] at hsh
  rw [ht] at hsh
  have HSH := Aside0.mk hsh
  have hc0 := (show 0 ≤ c ∧ c ≤ 255 from h.u8.1.head).1
  have hc1 := (show 0 ≤ c ∧ c ≤ 255 from h.u8.1.head).2
  have z9 : (((d + 1 : Nat) : Int) == 0) = false := by rw [beq_eq_false_iff_ne]; omega
  have HB := Aside0.mk (below_step hB (below_alloc (Below.refl w.heap.size w) (.cells #[.int .i64 0, .int .u64 0, .slice none 0 0, .slice none 0 0] 26)))
  have HS := Aside0.mk (h.below (below_alloc (Below.refl w.heap.size w) (.cells #[.int .i64 0, .int .u64 0, .slice none 0 0, .slice none 0 0] 26)))
  have H0 := Aside0.mk (show Blk (w.alloc (.cells #[.int .i64 0, .int .u64 0, .slice none 0 0, .slice none 0 0] 26)) w.heap.size 26 #[.int .i64 0, .int .u64 0, .slice none 0 0, .slice none 0 0] from blk_new _ _)
  have HG := Aside0.mk (show w0.heap.size ≤ w.heap.size ∧ g < w.heap.size from ⟨hB.size, h.blk.2.1⟩)
  have HKW := Aside0.mk (KeepBut.of_below (below_alloc (Below.refl w.heap.size w) (.cells #[.int .i64 0, .int .u64 0, .slice none 0 0, .slice none 0 0] 26)) g none)
  have hu26 := Try.underlying26
  have hu69 := Try.underlying69
  obtain ⟨D, hD⟩ : ∃ D : Int, ((d + 1 : Nat) : Int) = D := ⟨_, rfl⟩
  rw [hD] at z9 ⊢
  clear h hB ht hd hsh hD
  go_enter Try.func50, Try.ntmps50
  go_wp2_with (first
    | (go_at_call 69; refine (takeO_ w0 _ g (some (c :: r)) 1 HS.out HB.out).mono ?_; rintro e w1 ⟨v, rfl, ho, hl⟩; rw [take1] at ho hl; obtain ⟨A5, c5, rfl, hl5, hr5⟩ := Ob.reads ho; obtain ⟨ad5, rfl, hc5⟩ := Rb.at0 hr5; have HL := Aside0.mk (show Tlv.Left w0 w w1 g (some r) from ⟨hl.1, hl.2.1, HKW.out.trans hl.2.2 (.inl rfl)⟩); have H01 := Aside0.mk (H0.out.keep hl.2.2 (by have := HG.out; omega)); clear ho hl hl5 hr5)
    | (go_at_call 70; refine (okO w0 _ g (some r) HL.out.1).mono ?_; rintro e w2 ⟨rfl, rfl⟩)
    | (go_at_call 43; go_must (refine (HSH.out _).mono ?_; rintro e w3 ⟨rfl, hb⟩; have HL3 := Aside0.mk (left_below (left_below HL.out (below_alloc (Below.refl _ _) _)) hb); have H03 := Aside0.mk ((H01.out.alloc (.cells #[.int .i64 c, .int .u64 0, .slice none 0 0, .slice none 0 0] 26)).below hb); have HT3 := Aside0.mk ((show Blk (w1.alloc (.cells #[.int .i64 c, .int .u64 0, .slice none 0 0, .slice none 0 0] 26)) w1.heap.size 26 #[.int .i64 c, .int .u64 0, .slice none 0 0, .slice none 0 0] from blk_new _ _).below hb); have HZ3 := Aside0.mk (show w1.heap.size < w3.heap.size by have := hb.size; simp at this; omega); have y0 := fun o => blk_frozen (H03.out.alloc o) 0; have y1 := fun o => blk_frozen (H03.out.alloc o) 1; have y2 := fun o => blk_frozen (H03.out.alloc o) 2; have y3 := fun o => blk_frozen (H03.out.alloc o) 3; have z0 := fun o => (H03.out.alloc o).cell 0; have z1 := fun o => (H03.out.alloc o).cell 1; have z2 := fun o => (H03.out.alloc o).cell 2; have z3 := fun o => (H03.out.alloc o).cell 3; simp only [List.getElem?_toArray, List.getElem?_cons_zero, List.getElem?_cons_succ] at z0 z1 z2 z3; clear hb)))
  refine bodyPost_ret (results_ct rfl _ _ w.heap.size 26 #[.int .i64 0, .int .u64 0, .slice none 0 0, .slice none 0 0] (0, 0) _ rfl (set4 (H03.out.alloc _) _ _ _ _) Try.underlying26 rfl (by kernel_rfl)) rfl ?_
  rw [HE.out]
  exact ⟨0, 0, none, 0, 0, none, 0, 0, _, rfl, left_set4 (left_below HL3.out (below_alloc (Below.refl _ _) _)) (H03.out.alloc _) (by simp [NoU8]) (by simp [NoU8]) (by simp [NoU8]) (by simp [NoU8]) (by have := HG.out; omega) HG.out.1 (Nat.le_refl _) _ _ _ _⟩
/-- What the loop over a term's kids keeps. -/
def Kids (w0 w W : World) (g gt : Nat) (c n : Int) (dt : List Int) (ks : List ST) (s : Option (List Int)) (b1 : Nat) : Prop :=
  ∃ v2 v3, (∃ A2 n2 c2, v2 = .slice A2 n2 c2) ∧ (∃ A3 n3 c3, v3 = .slice A3 n3 c3) ∧ Blk W gt 26 #[.int .i64 c, .int .u64 n, v2, v3] ∧ Ob W b1 v2 dt ∧ Kd.R k26 26 W b1 (fun k => (k ≠ g ∧ k ≠ gt) ∧ some k ≠ v2.ownBlock) v3 ks ∧ Tlv.Left w0 w W g s ∧ Blk W w.heap.size 26 #[.int .i64 0, .int .u64 0, .slice none 0 0, .slice none 0 0]
theorem rd_blk {w0 W : World} {g : Nat} {s : Option (List Int)} (h : RdO w0 W g s) : ∃ cs, W.heap[g]? = some (.cells cs 93 (0, 0)) := by
  obtain ⟨_, _, cs, h1, _⟩ := h.blk
  exact ⟨cs, h1⟩
theorem left_grown {w0 w W W1 : World} {g : Nat} {s : Option (List Int)} {row : Option Nat} (h : Tlv.Left w0 w W g s) (hb : Below w.heap.size W W1) (hg : W.grownBy W1 row) (hr : ∀ b, row = some b → g < b ∧ w0.heap.size ≤ b) (h0 : w0.heap.size ≤ w.heap.size) : Tlv.Left w0 w W1 g s :=
  ⟨h.1.grown hg (fun b e => (hr b e).1), h.2.1.trans (hb.mono h0), Nat.le_trans h.2.2.1 hb.size, fun i hi h1 h2 => (hb.block i hi).trans (h.2.2.2 i hi h1 h2)⟩
/-- What is left to be read of the kids. -/
def Rest (d N : Nat) (s2 : Option (List Int)) (i : Nat) (ks : List ST) (s : Option (List Int)) : Prop :=
  (match readK (readT d) (N - i) s with
    | some (l, s') => some (ks ++ l, s')
    | none => none) = readK (readT d) N s2
theorem rest_none {d N i : Nat} {s2 s : Option (List Int)} {ks : List ST} (h : Rest d N s2 i ks s) (hi : i < N) (hr : readT d s = none) : readK (readT d) N s2 = none := by
  unfold Rest at h
  rw [← h, show N - i = (N - (i + 1)) + 1 by omega, readK, hr]
theorem rest_some {d N i : Nat} {s2 s : Option (List Int)} {ks : List ST} {x : ST} {r : List Int} (h : Rest d N s2 i ks s) (hi : i < N) (hr : readT d s = some (x, r)) : Rest d N s2 (i + 1) (ks ++ [x]) (some r) := by
  unfold Rest at h ⊢
  rw [← h, show N - i = (N - (i + 1)) + 1 by omega, readK, hr]
  dsimp only
  cases readK (readT d) (N - (i + 1)) (some r) with
  | none => rfl
  | some p => obtain ⟨l, s'⟩ := p; simp
theorem rest_end {d N i : Nat} {s2 s : Option (List Int)} {ks : List ST} (h : Rest d N s2 i ks s) (hi : N ≤ i) : readK (readT d) N s2 = some (ks, s) := by
  unfold Rest at h
  rw [← h, show N - i = 0 by omega, readK]
  simp
theorem info_t : (Try.prog.info? 26).map (fun i => (i.zero, i.size, i.bytes)) = some (some (.agg #[.int .i64 0, .int .u64 0, .slice none 0 0, .slice none 0 0]), 4, 64) := by kernel_rfl
theorem row_g {w0 W : World} {g : Nat} {s : Option (List Int)} {b : Nat} {v : Value} {xs : List Int} (h : RdO w0 W g s) (ho : Ob W b v xs) : Kd.R (Kd.int .u8) 5 W b (fun k => True ∧ k ≠ g) v xs := by
  obtain ⟨cs, h1⟩ := rd_blk h
  exact Kd.R_types ho h1 (by decide)
theorem row_keep {w0 W W1 : World} {g : Nat} {s : Option (List Int)} {b : Nat} {v : Value} {xs : List Int} (h : RdO w0 W g s) (ho : Ob W b v xs) (hk : KeepBut W W1 g none) : Ob W1 b v xs :=
  Kd.R_mono (Kd.R_keep (row_g h ho) hk (fun _ h => h.2)) (fun _ _ => trivial)
theorem ob_grown {W W1 : World} {b1 b2 : Nat} {v2 v3 : Value} {xs : List Int} {ks : List ST} {ok : Nat → Prop} (h2 : Ob W b1 v2 xs) (h3 : Kd.R k26 26 W b2 ok v3 ks) (hg : W.grownBy W1 v3.ownBlock) : Ob W1 b1 v2 xs := by
  cases hv : v3.ownBlock with
  | none => rw [hv] at hg; exact Kd.R_grown h2 hg (by simp)
  | some b =>
    obtain ⟨inner, ho⟩ := Kd.R_own h3
    obtain ⟨cells, hc⟩ := own_typed ho b hv
    exact Kd.R_mono (Kd.R_grown (Kd.R_types h2 hc (by decide)) hg (by rintro k ⟨_, hk⟩ e; rw [hv] at e; exact hk (Option.some.inj e))) (fun _ h => h.1)
theorem blk_step {W W1 : World} {g T b : Nat} {cs : Array Value} (h : Blk W g T cs) (hb : Below b W W1) (hg : g < b) : Blk W1 g T cs := (hb.block g hg).trans h
theorem kids_more {w0 w W w1 : World} {g gt : Nat} {c n : Int} {dt : List Int} {ks : List ST} {x : ST} {s : Option (List Int)} {v1 : Value} {A2 A3 : Option Addr} {n2 c2 n3 c3 : Nat} {ok : Nat → Prop}
    (hT : Blk W gt 26 #[.int .i64 c, .int .u64 n, .slice A2 n2 c2, .slice A3 n3 c3]) (hO : Ob W (gt + 1) (.slice A2 n2 c2) dt) (hR : Kd.R k26 26 W (gt + 1) ok (.slice A3 n3 c3) ks) (hL : Tlv.Left w0 w W g s) (h0 : Blk W w.heap.size 26 #[.int .i64 0, .int .u64 0, .slice none 0 0, .slice none 0 0])
    (hR1 : Kd.R k26 26 w1 (gt + 1) (fun k => (k ≠ g ∧ k ≠ gt) ∧ some k ≠ (Value.slice A2 n2 c2).ownBlock) v1 (ks ++ [x])) (hb : Below (gt + 1) W w1) (hg : W.grownBy w1 (Value.slice A3 n3 c3).ownBlock) (hw : w0.heap.size ≤ w.heap.size ∧ g < w.heap.size) (hgt : w.heap.size < gt) :
    Blk w1 gt 26 #[.int .i64 c, .int .u64 n, .slice A2 n2 c2, .slice A3 n3 c3] ∧ Kids w0 w (w1.setCell ⟨gt, 3, none⟩ v1) g gt c n dt (ks ++ [x]) s (gt + 1) := by
  have hT1 := blk_step hT hb (by omega)
  have hL1 : Tlv.Left w0 w w1 g s := left_grown hL (hb.mono (by omega)) hg (fun b e => by have := Kd.R_base hR b e; exact ⟨by omega, by omega⟩) hw.1
  refine ⟨hT1, .slice A2 n2 c2, v1, ⟨_, _, _, rfl⟩, ?_, ?_, ?_, ?_, ?_, ?_⟩
  · obtain ⟨A, c, e⟩ := Kd.R_slice hR1
    exact ⟨_, _, _, e⟩
  · have h := blk_set hT1 3 v1
    simpa [Blk] using h
  · exact Kd.R_set (ob_grown hO hR hg) hT1 (by decide) 3 _
  · exact Kd.R_far hR1 (fun _ hk => hk.1.2) _
  · exact left_set1 hL1 hT1 (by simp [NoU8]) (by simp [NoU8]) (by simp [NoU8]) (by simp [NoU8]) (by omega) (by omega) (by omega) _
  · exact blk_far (blk_step h0 hb (by omega)) (by dsimp only; omega) _
theorem kids_out {w0 w W : World} {g gt : Nat} {dt : List Int} {ks : List ST} {s : Option (List Int)} {v2 v3 : Value} {ok : Nat → Prop}
    (hO : Ob W (gt + 1) v2 dt) (hR : Kd.R k26 26 W (gt + 1) ok v3 ks) (hok : ∀ k, ok k → some k ≠ v2.ownBlock) (hL : Tlv.Left w0 w W g s) (h0 : Blk W w.heap.size 26 #[.int .i64 0, .int .u64 0, .slice none 0 0, .slice none 0 0]) (hw : w0.heap.size ≤ w.heap.size ∧ g < w.heap.size) (hgt : w.heap.size < gt) (a b c d : Value) :
    Ob ((((W.setCell ⟨w.heap.size, 0, none⟩ a).setCell ⟨w.heap.size, 1, none⟩ b).setCell ⟨w.heap.size, 2, none⟩ c).setCell ⟨w.heap.size, 3, none⟩ d) w.heap.size v2 dt
    ∧ Kd.R k26 26 ((((W.setCell ⟨w.heap.size, 0, none⟩ a).setCell ⟨w.heap.size, 1, none⟩ b).setCell ⟨w.heap.size, 2, none⟩ c).setCell ⟨w.heap.size, 3, none⟩ d) w.heap.size (fun k => some k ≠ v2.ownBlock) v3 ks
    ∧ Tlv.Left w0 w ((((W.setCell ⟨w.heap.size, 0, none⟩ a).setCell ⟨w.heap.size, 1, none⟩ b).setCell ⟨w.heap.size, 2, none⟩ c).setCell ⟨w.heap.size, 3, none⟩ d) g s := by
  have hk := ((((KeepBut.refl W w.heap.size none).set_ 0 a).set_ 1 b).set_ 2 c).set_ 3 d
  refine ⟨Kd.R_mono (Kd.R_lower (Kd.R_keep (Kd.R_bound hO) hk (fun k hk => ?_)) (by omega)) (fun _ _ => trivial), Kd.R_mono (Kd.R_lower (Kd.R_keep (Kd.R_bound hR) hk (fun k hk => ?_)) (by omega)) (fun k h => hok k h.1), left_set4 hL h0 (by simp [NoU8]) (by simp [NoU8]) (by simp [NoU8]) (by simp [NoU8]) (by omega) (by omega) (Nat.le_refl _) _ _ _ _⟩
  · have := hk.2.1; omega
  · have := hk.2.1; omega
set_option maxHeartbeats 8000000 in
set_option maxRecDepth 100000 in
theorem read_num (d : Nat) (hd : d + 1 ≤ 8) (ih : ∀ w0 w g st, RdO w0 w g st → Below w0.heap.size w0 w → Calls Try.prog 50 #[.pointer (some ⟨g, 0, none⟩), .int .i64 (d : Int)] w (ReadQ w0 w g (readT d st))) (w0 w : World) (g : Nat) (c : Int) (r : List Int) (h : RdO w0 w g (some (c :: r))) (hB : Below w0.heap.size w0 w) (ht : thereB c = true) (hn : numT c = true) (hdt : datT c = false) :
    Calls Try.prog 50 #[.pointer (some ⟨g, 0, none⟩), .int .i64 ((d + 1 : Nat) : Int)] w (ReadQ w0 w g (readT (d + 1) (some (c :: r)))) := by
  have HE := Aside0.mk (show readT (d + 1) (some (c :: r)) = match readK (readT d) (kidT c) ((numO (some r)).2) with
      | some (ks, some s) => some (⟨c, (numO (some r)).1, [], ks⟩, s)
      | _ => none by
    rw [readT, take1]
    simp only [List.getD_cons_zero]
    rw [if_pos ht]
    unfold datR numR
    rw [hn, hdt]
    rfl)
  have hsh := shape_c c
  simp only [shapeV] at hsh
  rw [ht, hn, hdt] at hsh
  have HSH := Aside0.mk hsh
  have HIH := Aside0.mk ih
  have HD8 := Aside0.mk hd
  have hc0 := (show 0 ≤ c ∧ c ≤ 255 from h.u8.1.head).1
  have hc1 := (show 0 ≤ c ∧ c ≤ 255 from h.u8.1.head).2
  have z9 : (((d + 1 : Nat) : Int) == 0) = false := by rw [beq_eq_false_iff_ne]; omega
  have HW1 := Aside0.mk (show wrap64 (((d + 1 : Nat) : Int) - 1) = (d : Int) from dec_i (by omega))
  have HB := Aside0.mk (below_step hB (below_alloc (Below.refl w.heap.size w) (.cells #[.int .i64 0, .int .u64 0, .slice none 0 0, .slice none 0 0] 26)))
  have HS := Aside0.mk (h.below (below_alloc (Below.refl w.heap.size w) (.cells #[.int .i64 0, .int .u64 0, .slice none 0 0, .slice none 0 0] 26)))
  have H0 := Aside0.mk (show Blk (w.alloc (.cells #[.int .i64 0, .int .u64 0, .slice none 0 0, .slice none 0 0] 26)) w.heap.size 26 #[.int .i64 0, .int .u64 0, .slice none 0 0, .slice none 0 0] from blk_new _ _)
  have HG := Aside0.mk (show w0.heap.size ≤ w.heap.size ∧ g < w.heap.size from ⟨hB.size, h.blk.2.1⟩)
  have HKW := Aside0.mk (KeepBut.of_below (below_alloc (Below.refl w.heap.size w) (.cells #[.int .i64 0, .int .u64 0, .slice none 0 0, .slice none 0 0] 26)) g none)
  have hu26 := Try.underlying26
  have hu69 := Try.underlying69
  obtain ⟨D, hD⟩ : ∃ D : Int, ((d + 1 : Nat) : Int) = D := ⟨_, rfl⟩
  rw [hD] at z9 HW1 ⊢
  clear h hB ht hd hsh hD ih hn hdt
  go_enter Try.func50, Try.ntmps50
  go_upto_region 12 with (first
    | (go_at_call 69; refine (takeO_ w0 _ g (some (c :: r)) 1 HS.out HB.out).mono ?_; rintro e w1 ⟨v, rfl, ho, hl⟩; rw [take1] at ho hl; obtain ⟨A5, c5, rfl, hl5, hr5⟩ := Ob.reads ho; obtain ⟨ad5, rfl, hc5⟩ := Rb.at0 hr5; have HL := Aside0.mk (show Tlv.Left w0 w w1 g (some r) from ⟨hl.1, hl.2.1, HKW.out.trans hl.2.2 (.inl rfl)⟩); have H01 := Aside0.mk (H0.out.keep hl.2.2 (by have := HG.out; omega)); clear ho hl hl5 hr5)
    | (go_at_call 70; refine (okO w0 _ g (some r) HL.out.1).mono ?_; rintro e w2 ⟨rfl, rfl⟩)
    | (go_at_call 43; go_must (refine (HSH.out _).mono ?_; rintro e w3 ⟨rfl, hb⟩; have HL3 := Aside0.mk (left_below (left_below HL.out (below_alloc (Below.refl _ _) _)) hb); have H03 := Aside0.mk ((H01.out.alloc (.cells #[.int .i64 c, .int .u64 0, .slice none 0 0, .slice none 0 0] 26)).below hb); have HT3 := Aside0.mk ((show Blk (w1.alloc (.cells #[.int .i64 c, .int .u64 0, .slice none 0 0, .slice none 0 0] 26)) w1.heap.size 26 #[.int .i64 c, .int .u64 0, .slice none 0 0, .slice none 0 0] from blk_new _ _).below hb); have HZ3 := Aside0.mk (show w1.heap.size < w3.heap.size by have := hb.size; simp at this; omega); have HS3 := Aside0.mk (show Blk (w3.alloc (.cells #[.bool true, .bool true, .bool false, .int .i64 (kidT c : Int)] 69)) w3.heap.size 69 #[.bool true, .bool true, .bool false, .int .i64 (kidT c : Int)] from blk_new _ _); have HT4 := Aside0.mk (HT3.out.alloc (.cells #[.bool true, .bool true, .bool false, .int .i64 (kidT c : Int)] 69)); have HL4 := Aside0.mk (left_below HL3.out (below_alloc (Below.refl _ _) (.cells #[.bool true, .bool true, .bool false, .int .i64 (kidT c : Int)] 69))); have H04 := Aside0.mk (H03.out.alloc (.cells #[.bool true, .bool true, .bool false, .int .i64 (kidT c : Int)] 69)); have m0 := HS3.out.cell 0; have m1 := HS3.out.cell 1; have m2 := HS3.out.cell 2; have m3 := HS3.out.cell 3; simp only [List.getElem?_toArray, List.getElem?_cons_zero, List.getElem?_cons_succ] at m0 m1 m2 m3; clear hb))
    | (go_at_call 71; go_must (refine (numO_ w0 _ g (some r) HL4.out.1 HL4.out.2.1).mono ?_; rintro e w5 ⟨rfl, hl⟩; have HT5 := Aside0.mk (HT4.out.keep hl.2.2 (by have := HG.out; have := HL.out.2.2.1; omega)); have HS5 := Aside0.mk (HS3.out.keep hl.2.2 (by have := HG.out; have := HL.out.2.2.1; have := HZ3.out; omega)); have H05 := Aside0.mk (H04.out.keep hl.2.2 (by have := HG.out; omega)); have HL5 := Aside0.mk (HL4.out.trans hl); have u1 := HT5.out.cell 1; have f1 := blk_frozen HT5.out 1; clear m0 m1 m2 m3; have m0 := HS5.out.cell 0; have m1 := HS5.out.cell 1; have m2 := HS5.out.cell 2; have m3 := HS5.out.cell 3; simp only [List.getElem?_toArray, List.getElem?_cons_zero, List.getElem?_cons_succ] at u1 m0 m1 m2 m3; clear hl)))
  obtain ⟨W, hW⟩ : ∃ W, w5.setCell ⟨w1.heap.size, 1, none⟩ (.int .u64 (numO (some r)).1) = W := ⟨_, rfl⟩
  have HKD := Aside0.mk (show Kids w0 w W g w1.heap.size c (numO (some r)).1 [] [] ((numO (some r)).2) (w1.heap.size + 1) by rw [← hW]; exact ⟨.slice none 0 0, .slice none 0 0, ⟨_, _, _, rfl⟩, ⟨_, _, _, rfl⟩, by have h := blk_set HT5.out 1 (.int .u64 (numO (some r)).1); simpa [Blk] using h, Kd.R_nil _ _ _ _ _, Kd.R_nil _ _ _ _ _, left_set1 HL5.out HT5.out (by simp [NoU8]) (by simp [NoU8]) (by simp [NoU8]) (by simp [NoU8]) (by have := HG.out; have := HL.out.2.2.1; omega) (by have := HG.out; have := HL.out.2.2.1; omega) HL.out.2.2.1 _, blk_far H05.out (by have := HG.out; have := HL.out.2.2.1; have := HZ3.out; have := H01.out.lt; dsimp only; omega) _⟩)
  have HSW := Aside0.mk (show Blk W w3.heap.size 69 #[.bool true, .bool true, .bool false, .int .i64 (kidT c : Int)] by rw [← hW]; exact blk_far HS5.out (by have := HG.out; have := HL.out.2.2.1; have := HZ3.out; have := H01.out.lt; dsimp only; omega) _)
  rw [hW]
  have HGT := Aside0.mk (show w.heap.size < w1.heap.size by have := HL.out.2.2.1; have := H01.out.lt; omega)
  obtain ⟨gt, hgt⟩ : ∃ k, w1.heap.size = k := ⟨_, rfl⟩
  obtain ⟨gs, hgs⟩ : ∃ k, w3.heap.size = k := ⟨_, rfl⟩
  rw [hgt] at HKD HGT ⊢
  rw [hgs] at HSW ⊢
  obtain ⟨nv, hnv⟩ : ∃ k : Int, (numO (some r)).1 = k := ⟨_, rfl⟩
  obtain ⟨s2, hs2⟩ : ∃ k : Option (List Int), (numO (some r)).2 = k := ⟨_, rfl⟩
  obtain ⟨N, hN⟩ : ∃ k, kidT c = k := ⟨_, rfl⟩
  have HNL := Aside0.mk (show N ≤ 2 by rw [← hN]; exact kid_len c)
  simp only [hnv, hs2, hN] at HKD HE HSW ⊢
  have hw9 := HW1.out
  have q3 := HSW.out.cell 3
  simp only [List.getElem?_toArray, List.getElem?_cons_zero, List.getElem?_cons_succ] at q3
  clear hW hgt hgs hN m0 m1 m2 m3 hs2 u1 f1 hnv
  go_wp2
  go_loopg [45] N (fun gf s45 wx => ∃ (i : Nat) (ks : List ST) (s : Option (List Int)) (wy : World), wy = wx ∧ s45 = .int .i64 (i : Int) ∧ i + gf = N ∧ ks.length = i ∧ Kids w0 w wy g gt c nv [] ks s (gt + 1) ∧ Rest d N s2 i ks s)
  case atStart => exact ⟨0, [], s2, _, rfl, rfl, by omega, rfl, HKD.out, by simp [Rest]; cases readK (readT d) N s2 <;> simp⟩
  case round =>
    obtain ⟨i, ks, s, wx, rfl, rfl, hi, hkl, ⟨v2, v3, ⟨A2, n2, c2, rfl⟩, ⟨A3, n3, c3, rfl⟩, hT, hO, hR, hL, h0⟩, hRe⟩ := hrel
    have HQ := Aside0.mk hi; have HLK := Aside0.mk hkl; have HT := Aside0.mk hT; have HO := Aside0.mk hO; have HR := Aside0.mk hR; have HL := Aside0.mk hL; have H0 := Aside0.mk h0; have HRE := Aside0.mk hRe
    clear hi hkl hT hO hR hL h0 hRe HKD HSW HL3 H03 HT3 HS3 HT4 HL4 H04 HL5 HT5 H05 HS5
    by_cases hlt : i < N
    · have hl1 : decide ((i : Int) < (N : Int)) = true := decide_eq_true (by omega)
      have hw1 : wrap64 ((i : Int) + 1) = ((i + 1 : Nat) : Int) := by have := HNL.out; rw [Aid.w64 (by omega) (by omega)]; omega
      have hc := HIH.out w0 wx g s HL.out.1 HL.out.2.1
      cases hr : readT d s with
      | none =>
        rw [hr] at hc
        have HC := Aside0.mk hc
        have HEE := Aside0.mk (HE.out.trans (by rw [rest_none HRE.out hlt hr]))
        clear hc hr
        go_wp2_with (go_at_call 50; refine HC.out.mono ?_; rintro e w' ⟨y0, y1, B2, m2, e2, B3, m3, e3, s', rfl, hl'⟩; have HL' := Aside0.mk (HL.out.trans hl'); have H0' := Aside0.mk (H0.out.keep hl'.2.2 (by have := HG.out; omega)); have y0_ := fun o => blk_frozen (H0'.out.alloc o) 0; have y1_ := fun o => blk_frozen (H0'.out.alloc o) 1; have y2_ := fun o => blk_frozen (H0'.out.alloc o) 2; have y3_ := fun o => blk_frozen (H0'.out.alloc o) 3; have z0 := fun o => (H0'.out.alloc o).cell 0; have z1 := fun o => (H0'.out.alloc o).cell 1; have z2 := fun o => (H0'.out.alloc o).cell 2; have z3 := fun o => (H0'.out.alloc o).cell 3; simp only [List.getElem?_toArray, List.getElem?_cons_zero, List.getElem?_cons_succ] at z0 z1 z2 z3; clear hl')
        refine bodyPost_ret (results_ct rfl _ _ w.heap.size 26 #[.int .i64 0, .int .u64 0, .slice none 0 0, .slice none 0 0] (0, 0) _ rfl (set4 (H0'.out.alloc _) _ _ _ _) Try.underlying26 rfl (by kernel_rfl)) rfl ?_
        rw [HEE.out]
        exact ⟨0, 0, none, 0, 0, none, 0, 0, _, rfl, left_set4 (left_below HL'.out (below_alloc (Below.refl _ _) _)) (H0'.out.alloc _) (by simp [NoU8]) (by simp [NoU8]) (by simp [NoU8]) (by simp [NoU8]) (by have := HG.out; omega) HG.out.1 (Nat.le_refl _) _ _ _ _⟩
      | some p =>
        obtain ⟨x, r'⟩ := p
        rw [hr] at hc
        have HC := Aside0.mk hc
        have HRS := Aside0.mk (rest_some HRE.out hlt hr)
        clear hc hr
        go_wp2_with (first
          | (go_at_call 50; refine HC.out.mono ?_; rintro e w' ⟨q2, q3_, rfl, ho2, ho3, hl'⟩; obtain ⟨B2, e2, rfl⟩ := Kd.R_slice ho2; obtain ⟨B3, e3, rfl⟩ := Kd.R_slice ho3
             have HL' := Aside0.mk (left_below (HL.out.trans hl') (below_alloc (Below.refl _ _) (.cells #[.int .i64 x.f0, .int .u64 x.f1, .slice B2 x.f2.length e2, .slice B3 x.f3.length e3] 26))); have H0' := Aside0.mk ((H0.out.keep hl'.2.2 (by have := HG.out; omega)).alloc (.cells #[.int .i64 x.f0, .int .u64 x.f1, .slice B2 x.f2.length e2, .slice B3 x.f3.length e3] 26)); have HT' := Aside0.mk ((HT.out.keep hl'.2.2 (by have := HG.out; have := HGT.out; omega)).alloc (.cells #[.int .i64 x.f0, .int .u64 x.f1, .slice B2 x.f2.length e2, .slice B3 x.f3.length e3] 26))
             have HO' := Aside0.mk (Kd.R_alloc (row_keep HL.out.1 HO.out hl'.2.2) (.cells #[.int .i64 x.f0, .int .u64 x.f1, .slice B2 x.f2.length e2, .slice B3 x.f3.length e3] 26)); have HR' := Aside0.mk (Kd.R_alloc (Kd.R_keep HR.out hl'.2.2 (fun _ h => h.1.1)) (.cells #[.int .i64 x.f0, .int .u64 x.f1, .slice B2 x.f2.length e2, .slice B3 x.f3.length e3] 26))
             have HM := Aside0.mk (k26_mkM _ (gt + 1) (fun k => wx.heap.size ≤ k) x (Kd.R_mono (Kd.R_lower (Kd.R_bound (Kd.R_alloc ho2 (.cells #[.int .i64 x.f0, .int .u64 x.f1, .slice B2 x.f2.length e2, .slice B3 x.f3.length e3] 26))) (by have := HT.out.lt; omega)) (fun _ h => h.2.1)) (Kd.R_mono (Kd.R_lower (Kd.R_bound (Kd.R_alloc ho3 (.cells #[.int .i64 x.f0, .int .u64 x.f1, .slice B2 x.f2.length e2, .slice B3 x.f3.length e3] 26))) (by have := HT.out.lt; omega)) (fun _ h => h.2.1)))
             have HOK := Aside0.mk (show ∀ k, wx.heap.size ≤ k → ((k ≠ g ∧ k ≠ gt) ∧ some k ≠ (Value.slice A2 n2 c2).ownBlock) ∧ some k ≠ (Value.slice A3 n3 c3).ownBlock from fun k hk => ⟨⟨⟨by have := HG.out; have := HT.out.lt; have := HGT.out; omega, by have := HT.out.lt; omega⟩, fun e => by have := Kd.R_lt HO.out k e.symm; omega⟩, fun e => by have := Kd.R_lt HR.out k e.symm; omega⟩)
             have HSZ := Aside0.mk (show gt + 1 ≤ (w'.alloc (.cells #[.int .i64 x.f0, .int .u64 x.f1, .slice B2 x.f2.length e2, .slice B3 x.f3.length e3] 26)).heap.size from HT'.out.lt)
             have HFR := Aside0.mk (show ∀ k, (w'.alloc (.cells #[.int .i64 x.f0, .int .u64 x.f1, .slice B2 x.f2.length e2, .slice B3 x.f3.length e3] 26)).heap.size ≤ k → (k ≠ g ∧ k ≠ gt) ∧ some k ≠ (Value.slice A2 n2 c2).ownBlock from fun k hk => ⟨⟨by have := HG.out; have := HGT.out; have := HSZ.out; omega, by have := HSZ.out; omega⟩, fun e => by have := Kd.R_lt HO'.out k e.symm; omega⟩)
             have HLN := Aside0.mk (show (ks.length + 1) * 64 ≤ 140737488355328 by have := HLK.out; have := HQ.out; have := HNL.out; omega)
             have y3_ := HT'.out.cell 3; simp only [List.getElem?_toArray, List.getElem?_cons_zero, List.getElem?_cons_succ] at y3_
             clear ho2 ho3 hl')
          | ((with_reducible refine gate_builtin (b := .append) (xs := #[.tmp 58, .tmp 60]) rfl ?_); at_builtin; go_must (refine Kd.R_append k26 (gt + 1) rfl (.tmp 58) (.tmp 60) 24 26 (.agg #[.int .i64 0, .int .u64 0, .slice none 0 0, .slice none 0 0]) 64 rfl Try.underlying24 info_t rfl (by decide) (by decide) _ ks x _ (fun k => (k ≠ g ∧ k ≠ gt) ∧ some k ≠ (Value.slice A2 n2 c2).ownBlock) (fun k => wx.heap.size ≤ k) rfl (by rw [size_alloc]; rfl) HM.out HOK.out HFR.out HR'.out (Below.refl _ _) HSZ.out HLN.out ?_); intro v1 w1' hr1 hb1 hg1 _; obtain ⟨A9, c9, rfl⟩ := Kd.R_slice hr1; have HMORE := Aside0.mk (kids_more HT'.out HO'.out HR'.out HL'.out H0'.out hr1 hb1 hg1 HG.out HGT.out); have y3 := blk_frozen HMORE.out.1 3; have y4 := HMORE.out.1.cell 3; simp only [List.getElem?_toArray, List.getElem?_cons_zero, List.getElem?_cons_succ] at y4; clear hr1 hb1 hg1))
        go_roundg (N - (i + 1))
        case measure => have := HQ.out; omega
        case rel => exact ⟨i + 1, ks ++ [x], some r', _, rfl, by first | rfl | rw [hw1], by omega, by simp [HLK.out], by have hm := HMORE.out.2; rw [List.length_append] at hm; exact hm, HRS.out⟩
    · have hl1 : decide ((i : Int) < (N : Int)) = false := decide_eq_false (by omega)
      have HEE := Aside0.mk (HE.out.trans (by rw [rest_end HRE.out (by omega)]))
      have HKO := Aside0.mk (kids_out HO.out HR.out (fun _ h => h.2) HL.out H0.out HG.out HGT.out)
      have HTD := Aside0.mk (HT.out.below (below_drew1 (Below.refl _ _)))
      have H0D := Aside0.mk (H0.out.below (below_drew1 (Below.refl _ _)))
      have x0 := HTD.out.cell 0; have x1 := HTD.out.cell 1; have x2 := HTD.out.cell 2; have x3 := HTD.out.cell 3; have y0 := blk_frozen H0D.out 0; have y1 := blk_frozen H0D.out 1; have y2 := blk_frozen H0D.out 2; have y3 := blk_frozen H0D.out 3; have z0 := H0D.out.cell 0; have z1 := H0D.out.cell 1; have z2 := H0D.out.cell 2; have z3 := H0D.out.cell 3
      simp only [List.getElem?_toArray, List.getElem?_cons_zero, List.getElem?_cons_succ] at x0 x1 x2 x3 z0 z1 z2 z3
      have X0 := HT.out.cell 0; have X1 := HT.out.cell 1; have X2 := HT.out.cell 2; have X3 := HT.out.cell 3; have Y0 := blk_frozen H0.out 0; have Y1 := blk_frozen H0.out 1; have Y2 := blk_frozen H0.out 2; have Y3 := blk_frozen H0.out 3; have Z0 := H0.out.cell 0; have Z1 := H0.out.cell 1; have Z2 := H0.out.cell 2; have Z3 := H0.out.cell 3
      simp only [List.getElem?_toArray, List.getElem?_cons_zero, List.getElem?_cons_succ] at X0 X1 X2 X3 Z0 Z1 Z2 Z3
      go_wp2
      cases s with
      | none =>
        go_region_law (go_simp; go_at_call 70; refine (okO w0 _ g none (RdO.below HL.out.1 (below_drew1 (Below.refl _ _)))).mono ?_; rintro e w2 ⟨rfl, rfl⟩)
        all_goals
          go_wp2_with (fail)
          refine bodyPost_ret (results_ct rfl _ _ w.heap.size 26 #[.int .i64 c, .int .u64 nv, .slice A2 n2 c2, .slice A3 n3 c3] (0, 0) _ rfl ((set4 H0.out _ _ _ _).below (below_drew1 (Below.refl _ _))) Try.underlying26 rfl (by kernel_rfl)) rfl ?_
          rw [HEE.out]
          exact ⟨c, nv, A2, n2, c2, A3, n3, c3, none, rfl, left_below (HKO.out _ _ _ _).2.2 (below_drew1 (Below.refl _ _))⟩
      | some r' =>
        go_region_law (go_simp; go_at_call 70; refine (okO w0 _ g (some r') (RdO.below HL.out.1 (below_drew1 (Below.refl _ _)))).mono ?_; rintro e w2 ⟨rfl, rfl⟩)
        all_goals
          go_wp2_with (fail)
          refine bodyPost_ret (results_ct rfl _ _ w.heap.size 26 #[.int .i64 c, .int .u64 nv, .slice A2 n2 c2, .slice A3 n3 c3] (0, 0) _ rfl ((set4 H0.out _ _ _ _).below (below_drew1 (Below.refl _ _))) Try.underlying26 rfl (by kernel_rfl)) rfl ?_
          rw [HEE.out]
          exact ⟨.slice A2 n2 c2, .slice A3 n3 c3, rfl, Kd.R_drew (HKO.out _ _ _ _).1, Kd.R_drew (HKO.out _ _ _ _).2.1, left_below (HKO.out _ _ _ _).2.2 (below_drew1 (Below.refl _ _))⟩
set_option maxHeartbeats 8000000 in
set_option maxRecDepth 100000 in
theorem read_dat (d : Nat) (hd : d + 1 ≤ 8) (ih : ∀ w0 w g st, RdO w0 w g st → Below w0.heap.size w0 w → Calls Try.prog 50 #[.pointer (some ⟨g, 0, none⟩), .int .i64 (d : Int)] w (ReadQ w0 w g (readT d st))) (w0 w : World) (g : Nat) (c : Int) (r : List Int) (h : RdO w0 w g (some (c :: r))) (hB : Below w0.heap.size w0 w) (ht : thereB c = true) (hn : numT c = false) (hdt : datT c = true) :
    Calls Try.prog 50 #[.pointer (some ⟨g, 0, none⟩), .int .i64 ((d + 1 : Nat) : Int)] w (ReadQ w0 w g (readT (d + 1) (some (c :: r)))) := by
  have HE := Aside0.mk (show readT (d + 1) (some (c :: r)) = match readK (readT d) (kidT c) ((textO (some r) 100).2) with
      | some (ks, some s) => some (⟨c, 0, (textO (some r) 100).1, ks⟩, s)
      | _ => none by
    rw [readT, take1]
    simp only [List.getD_cons_zero]
    rw [if_pos ht]
    unfold datR numR
    rw [hn, hdt]
    rfl)
  have hsh := shape_c c
  simp only [shapeV] at hsh
  rw [ht, hn, hdt] at hsh
  have HSH := Aside0.mk hsh
  have HIH := Aside0.mk ih
  have HD8 := Aside0.mk hd
  have hc0 := (show 0 ≤ c ∧ c ≤ 255 from h.u8.1.head).1
  have hc1 := (show 0 ≤ c ∧ c ≤ 255 from h.u8.1.head).2
  have z9 : (((d + 1 : Nat) : Int) == 0) = false := by rw [beq_eq_false_iff_ne]; omega
  have HW1 := Aside0.mk (show wrap64 (((d + 1 : Nat) : Int) - 1) = (d : Int) from dec_i (by omega))
  have HB := Aside0.mk (below_step hB (below_alloc (Below.refl w.heap.size w) (.cells #[.int .i64 0, .int .u64 0, .slice none 0 0, .slice none 0 0] 26)))
  have HS := Aside0.mk (h.below (below_alloc (Below.refl w.heap.size w) (.cells #[.int .i64 0, .int .u64 0, .slice none 0 0, .slice none 0 0] 26)))
  have H0 := Aside0.mk (show Blk (w.alloc (.cells #[.int .i64 0, .int .u64 0, .slice none 0 0, .slice none 0 0] 26)) w.heap.size 26 #[.int .i64 0, .int .u64 0, .slice none 0 0, .slice none 0 0] from blk_new _ _)
  have HG := Aside0.mk (show w0.heap.size ≤ w.heap.size ∧ g < w.heap.size from ⟨hB.size, h.blk.2.1⟩)
  have HKW := Aside0.mk (KeepBut.of_below (below_alloc (Below.refl w.heap.size w) (.cells #[.int .i64 0, .int .u64 0, .slice none 0 0, .slice none 0 0] 26)) g none)
  have hu26 := Try.underlying26
  have hu69 := Try.underlying69
  obtain ⟨D, hD⟩ : ∃ D : Int, ((d + 1 : Nat) : Int) = D := ⟨_, rfl⟩
  rw [hD] at z9 HW1 ⊢
  clear h hB ht hd hsh hD ih hn hdt
  go_enter Try.func50, Try.ntmps50
  go_upto_region 12 with (first
    | (go_at_call 69; refine (takeO_ w0 _ g (some (c :: r)) 1 HS.out HB.out).mono ?_; rintro e w1 ⟨v, rfl, ho, hl⟩; rw [take1] at ho hl; obtain ⟨A5, c5, rfl, hl5, hr5⟩ := Ob.reads ho; obtain ⟨ad5, rfl, hc5⟩ := Rb.at0 hr5; have HL := Aside0.mk (show Tlv.Left w0 w w1 g (some r) from ⟨hl.1, hl.2.1, HKW.out.trans hl.2.2 (.inl rfl)⟩); have H01 := Aside0.mk (H0.out.keep hl.2.2 (by have := HG.out; omega)); clear ho hl hl5 hr5)
    | (go_at_call 70; refine (okO w0 _ g (some r) HL.out.1).mono ?_; rintro e w2 ⟨rfl, rfl⟩)
    | (go_at_call 43; go_must (refine (HSH.out _).mono ?_; rintro e w3 ⟨rfl, hb⟩; have HL3 := Aside0.mk (left_below (left_below HL.out (below_alloc (Below.refl _ _) _)) hb); have H03 := Aside0.mk ((H01.out.alloc (.cells #[.int .i64 c, .int .u64 0, .slice none 0 0, .slice none 0 0] 26)).below hb); have HT3 := Aside0.mk ((show Blk (w1.alloc (.cells #[.int .i64 c, .int .u64 0, .slice none 0 0, .slice none 0 0] 26)) w1.heap.size 26 #[.int .i64 c, .int .u64 0, .slice none 0 0, .slice none 0 0] from blk_new _ _).below hb); have HZ3 := Aside0.mk (show w1.heap.size < w3.heap.size by have := hb.size; simp at this; omega); have HS3 := Aside0.mk (show Blk (w3.alloc (.cells #[.bool true, .bool false, .bool true, .int .i64 (kidT c : Int)] 69)) w3.heap.size 69 #[.bool true, .bool false, .bool true, .int .i64 (kidT c : Int)] from blk_new _ _); have HT4 := Aside0.mk (HT3.out.alloc (.cells #[.bool true, .bool false, .bool true, .int .i64 (kidT c : Int)] 69)); have HL4 := Aside0.mk (left_below HL3.out (below_alloc (Below.refl _ _) (.cells #[.bool true, .bool false, .bool true, .int .i64 (kidT c : Int)] 69))); have H04 := Aside0.mk (H03.out.alloc (.cells #[.bool true, .bool false, .bool true, .int .i64 (kidT c : Int)] 69)); have m0 := HS3.out.cell 0; have m1 := HS3.out.cell 1; have m2 := HS3.out.cell 2; have m3 := HS3.out.cell 3; simp only [List.getElem?_toArray, List.getElem?_cons_zero, List.getElem?_cons_succ] at m0 m1 m2 m3; clear hb))
    | (go_at_call 72; go_must (refine (textO_ w0 _ g (some r) 100 HL4.out.1 HL4.out.2.1 (by decide)).mono ?_; rintro e w5 ⟨v, rfl, ho, hl⟩; obtain ⟨A6, c6, rfl⟩ := Kd.R_slice ho; have HOD := Aside0.mk ho; have HT5 := Aside0.mk (HT4.out.keep hl.2.2 (by have := HG.out; have := HL.out.2.2.1; omega)); have HS5 := Aside0.mk (HS3.out.keep hl.2.2 (by have := HG.out; have := HL.out.2.2.1; have := HZ3.out; omega)); have H05 := Aside0.mk (H04.out.keep hl.2.2 (by have := HG.out; omega)); have HL5 := Aside0.mk (HL4.out.trans hl); have u1 := HT5.out.cell 2; have f1 := blk_frozen HT5.out 2; clear m0 m1 m2 m3; have m0 := HS5.out.cell 0; have m1 := HS5.out.cell 1; have m2 := HS5.out.cell 2; have m3 := HS5.out.cell 3; simp only [List.getElem?_toArray, List.getElem?_cons_zero, List.getElem?_cons_succ] at u1 m0 m1 m2 m3; clear ho hl)))
  obtain ⟨W, hW⟩ : ∃ W, w5.setCell ⟨w1.heap.size, 2, none⟩ (.slice A6 (textO (some r) 100).1.length c6) = W := ⟨_, rfl⟩
  have HKD := Aside0.mk (show Kids w0 w W g w1.heap.size c 0 (textO (some r) 100).1 [] ((textO (some r) 100).2) (w1.heap.size + 1) by rw [← hW]; exact ⟨.slice A6 (textO (some r) 100).1.length c6, .slice none 0 0, ⟨_, _, _, rfl⟩, ⟨_, _, _, rfl⟩, by have h := blk_set HT5.out 2 (.slice A6 (textO (some r) 100).1.length c6); simpa [Blk] using h, Kd.R_lower (Kd.R_set HOD.out HT5.out (by decide) 2 _) (by have := HZ3.out; simp; omega), Kd.R_nil _ _ _ _ _, left_set1 HL5.out HT5.out (by simp [NoU8]) (by simp [NoU8]) (by simp [NoU8]) (by simp [NoU8]) (by have := HG.out; have := HL.out.2.2.1; omega) (by have := HG.out; have := HL.out.2.2.1; omega) HL.out.2.2.1 _, blk_far H05.out (by have := HG.out; have := HL.out.2.2.1; have := HZ3.out; have := H01.out.lt; dsimp only; omega) _⟩)
  have HSW := Aside0.mk (show Blk W w3.heap.size 69 #[.bool true, .bool false, .bool true, .int .i64 (kidT c : Int)] by rw [← hW]; exact blk_far HS5.out (by have := HG.out; have := HL.out.2.2.1; have := HZ3.out; have := H01.out.lt; dsimp only; omega) _)
  rw [hW]
  have HGT := Aside0.mk (show w.heap.size < w1.heap.size by have := HL.out.2.2.1; have := H01.out.lt; omega)
  obtain ⟨gt, hgt⟩ : ∃ k, w1.heap.size = k := ⟨_, rfl⟩
  obtain ⟨gs, hgs⟩ : ∃ k, w3.heap.size = k := ⟨_, rfl⟩
  rw [hgt] at HKD HGT ⊢
  rw [hgs] at HSW ⊢
  obtain ⟨dv, hdv⟩ : ∃ k : List Int, (textO (some r) 100).1 = k := ⟨_, rfl⟩
  obtain ⟨s2, hs2⟩ : ∃ k : Option (List Int), (textO (some r) 100).2 = k := ⟨_, rfl⟩
  obtain ⟨N, hN⟩ : ∃ k, kidT c = k := ⟨_, rfl⟩
  have HNL := Aside0.mk (show N ≤ 2 by rw [← hN]; exact kid_len c)
  simp only [hdv, hs2, hN] at HKD HE HSW ⊢
  have hw9 := HW1.out
  have q3 := HSW.out.cell 3
  simp only [List.getElem?_toArray, List.getElem?_cons_zero, List.getElem?_cons_succ] at q3
  clear hW hgt hgs hN m0 m1 m2 m3 hs2 u1 f1 hdv
  go_wp2
  go_loopg [45] N (fun gf s45 wx => ∃ (i : Nat) (ks : List ST) (s : Option (List Int)) (wy : World), wy = wx ∧ s45 = .int .i64 (i : Int) ∧ i + gf = N ∧ ks.length = i ∧ Kids w0 w wy g gt c 0 dv ks s (gt + 1) ∧ Rest d N s2 i ks s)
  case atStart => exact ⟨0, [], s2, _, rfl, rfl, by omega, rfl, HKD.out, by simp [Rest]; cases readK (readT d) N s2 <;> simp⟩
  case round =>
    obtain ⟨i, ks, s, wx, rfl, rfl, hi, hkl, ⟨v2, v3, ⟨A2, n2, c2, rfl⟩, ⟨A3, n3, c3, rfl⟩, hT, hO, hR, hL, h0⟩, hRe⟩ := hrel
    have HQ := Aside0.mk hi; have HLK := Aside0.mk hkl; have HT := Aside0.mk hT; have HO := Aside0.mk hO; have HR := Aside0.mk hR; have HL := Aside0.mk hL; have H0 := Aside0.mk h0; have HRE := Aside0.mk hRe
    clear hi hkl hT hO hR hL h0 hRe HKD HSW HL3 H03 HT3 HS3 HT4 HL4 H04 HL5 HT5 H05 HS5
    by_cases hlt : i < N
    · have hl1 : decide ((i : Int) < (N : Int)) = true := decide_eq_true (by omega)
      have hw1 : wrap64 ((i : Int) + 1) = ((i + 1 : Nat) : Int) := by have := HNL.out; rw [Aid.w64 (by omega) (by omega)]; omega
      have hc := HIH.out w0 wx g s HL.out.1 HL.out.2.1
      cases hr : readT d s with
      | none =>
        rw [hr] at hc
        have HC := Aside0.mk hc
        have HEE := Aside0.mk (HE.out.trans (by rw [rest_none HRE.out hlt hr]))
        clear hc hr
        go_wp2_with (go_at_call 50; refine HC.out.mono ?_; rintro e w' ⟨y0, y1, B2, m2, e2, B3, m3, e3, s', rfl, hl'⟩; have HL' := Aside0.mk (HL.out.trans hl'); have H0' := Aside0.mk (H0.out.keep hl'.2.2 (by have := HG.out; omega)); have y0_ := fun o => blk_frozen (H0'.out.alloc o) 0; have y1_ := fun o => blk_frozen (H0'.out.alloc o) 1; have y2_ := fun o => blk_frozen (H0'.out.alloc o) 2; have y3_ := fun o => blk_frozen (H0'.out.alloc o) 3; have z0 := fun o => (H0'.out.alloc o).cell 0; have z1 := fun o => (H0'.out.alloc o).cell 1; have z2 := fun o => (H0'.out.alloc o).cell 2; have z3 := fun o => (H0'.out.alloc o).cell 3; simp only [List.getElem?_toArray, List.getElem?_cons_zero, List.getElem?_cons_succ] at z0 z1 z2 z3; clear hl')
        refine bodyPost_ret (results_ct rfl _ _ w.heap.size 26 #[.int .i64 0, .int .u64 0, .slice none 0 0, .slice none 0 0] (0, 0) _ rfl (set4 (H0'.out.alloc _) _ _ _ _) Try.underlying26 rfl (by kernel_rfl)) rfl ?_
        rw [HEE.out]
        exact ⟨0, 0, none, 0, 0, none, 0, 0, _, rfl, left_set4 (left_below HL'.out (below_alloc (Below.refl _ _) _)) (H0'.out.alloc _) (by simp [NoU8]) (by simp [NoU8]) (by simp [NoU8]) (by simp [NoU8]) (by have := HG.out; omega) HG.out.1 (Nat.le_refl _) _ _ _ _⟩
      | some p =>
        obtain ⟨x, r'⟩ := p
        rw [hr] at hc
        have HC := Aside0.mk hc
        have HRS := Aside0.mk (rest_some HRE.out hlt hr)
        clear hc hr
        go_wp2_with (first
          | (go_at_call 50; refine HC.out.mono ?_; rintro e w' ⟨q2, q3_, rfl, ho2, ho3, hl'⟩; obtain ⟨B2, e2, rfl⟩ := Kd.R_slice ho2; obtain ⟨B3, e3, rfl⟩ := Kd.R_slice ho3
             have HL' := Aside0.mk (left_below (HL.out.trans hl') (below_alloc (Below.refl _ _) (.cells #[.int .i64 x.f0, .int .u64 x.f1, .slice B2 x.f2.length e2, .slice B3 x.f3.length e3] 26))); have H0' := Aside0.mk ((H0.out.keep hl'.2.2 (by have := HG.out; omega)).alloc (.cells #[.int .i64 x.f0, .int .u64 x.f1, .slice B2 x.f2.length e2, .slice B3 x.f3.length e3] 26)); have HT' := Aside0.mk ((HT.out.keep hl'.2.2 (by have := HG.out; have := HGT.out; omega)).alloc (.cells #[.int .i64 x.f0, .int .u64 x.f1, .slice B2 x.f2.length e2, .slice B3 x.f3.length e3] 26))
             have HO' := Aside0.mk (Kd.R_alloc (row_keep HL.out.1 HO.out hl'.2.2) (.cells #[.int .i64 x.f0, .int .u64 x.f1, .slice B2 x.f2.length e2, .slice B3 x.f3.length e3] 26)); have HR' := Aside0.mk (Kd.R_alloc (Kd.R_keep HR.out hl'.2.2 (fun _ h => h.1.1)) (.cells #[.int .i64 x.f0, .int .u64 x.f1, .slice B2 x.f2.length e2, .slice B3 x.f3.length e3] 26))
             have HM := Aside0.mk (k26_mkM _ (gt + 1) (fun k => wx.heap.size ≤ k) x (Kd.R_mono (Kd.R_lower (Kd.R_bound (Kd.R_alloc ho2 (.cells #[.int .i64 x.f0, .int .u64 x.f1, .slice B2 x.f2.length e2, .slice B3 x.f3.length e3] 26))) (by have := HT.out.lt; omega)) (fun _ h => h.2.1)) (Kd.R_mono (Kd.R_lower (Kd.R_bound (Kd.R_alloc ho3 (.cells #[.int .i64 x.f0, .int .u64 x.f1, .slice B2 x.f2.length e2, .slice B3 x.f3.length e3] 26))) (by have := HT.out.lt; omega)) (fun _ h => h.2.1)))
             have HOK := Aside0.mk (show ∀ k, wx.heap.size ≤ k → ((k ≠ g ∧ k ≠ gt) ∧ some k ≠ (Value.slice A2 n2 c2).ownBlock) ∧ some k ≠ (Value.slice A3 n3 c3).ownBlock from fun k hk => ⟨⟨⟨by have := HG.out; have := HT.out.lt; have := HGT.out; omega, by have := HT.out.lt; omega⟩, fun e => by have := Kd.R_lt HO.out k e.symm; omega⟩, fun e => by have := Kd.R_lt HR.out k e.symm; omega⟩)
             have HSZ := Aside0.mk (show gt + 1 ≤ (w'.alloc (.cells #[.int .i64 x.f0, .int .u64 x.f1, .slice B2 x.f2.length e2, .slice B3 x.f3.length e3] 26)).heap.size from HT'.out.lt)
             have HFR := Aside0.mk (show ∀ k, (w'.alloc (.cells #[.int .i64 x.f0, .int .u64 x.f1, .slice B2 x.f2.length e2, .slice B3 x.f3.length e3] 26)).heap.size ≤ k → (k ≠ g ∧ k ≠ gt) ∧ some k ≠ (Value.slice A2 n2 c2).ownBlock from fun k hk => ⟨⟨by have := HG.out; have := HGT.out; have := HSZ.out; omega, by have := HSZ.out; omega⟩, fun e => by have := Kd.R_lt HO'.out k e.symm; omega⟩)
             have HLN := Aside0.mk (show (ks.length + 1) * 64 ≤ 140737488355328 by have := HLK.out; have := HQ.out; have := HNL.out; omega)
             have y3_ := HT'.out.cell 3; simp only [List.getElem?_toArray, List.getElem?_cons_zero, List.getElem?_cons_succ] at y3_
             clear ho2 ho3 hl')
          | ((with_reducible refine gate_builtin (b := .append) (xs := #[.tmp 58, .tmp 60]) rfl ?_); at_builtin; go_must (refine Kd.R_append k26 (gt + 1) rfl (.tmp 58) (.tmp 60) 24 26 (.agg #[.int .i64 0, .int .u64 0, .slice none 0 0, .slice none 0 0]) 64 rfl Try.underlying24 info_t rfl (by decide) (by decide) _ ks x _ (fun k => (k ≠ g ∧ k ≠ gt) ∧ some k ≠ (Value.slice A2 n2 c2).ownBlock) (fun k => wx.heap.size ≤ k) rfl (by rw [size_alloc]; rfl) HM.out HOK.out HFR.out HR'.out (Below.refl _ _) HSZ.out HLN.out ?_); intro v1 w1' hr1 hb1 hg1 _; obtain ⟨A9, c9, rfl⟩ := Kd.R_slice hr1; have HMORE := Aside0.mk (kids_more HT'.out HO'.out HR'.out HL'.out H0'.out hr1 hb1 hg1 HG.out HGT.out); have y3 := blk_frozen HMORE.out.1 3; have y4 := HMORE.out.1.cell 3; simp only [List.getElem?_toArray, List.getElem?_cons_zero, List.getElem?_cons_succ] at y4; clear hr1 hb1 hg1))
        go_roundg (N - (i + 1))
        case measure => have := HQ.out; omega
        case rel => exact ⟨i + 1, ks ++ [x], some r', _, rfl, by first | rfl | rw [hw1], by omega, by simp [HLK.out], by have hm := HMORE.out.2; rw [List.length_append] at hm; exact hm, HRS.out⟩
    · have hl1 : decide ((i : Int) < (N : Int)) = false := decide_eq_false (by omega)
      have HEE := Aside0.mk (HE.out.trans (by rw [rest_end HRE.out (by omega)]))
      have HKO := Aside0.mk (kids_out HO.out HR.out (fun _ h => h.2) HL.out H0.out HG.out HGT.out)
      have HTD := Aside0.mk (HT.out.below (below_drew1 (Below.refl _ _)))
      have H0D := Aside0.mk (H0.out.below (below_drew1 (Below.refl _ _)))
      have x0 := HTD.out.cell 0; have x1 := HTD.out.cell 1; have x2 := HTD.out.cell 2; have x3 := HTD.out.cell 3; have y0 := blk_frozen H0D.out 0; have y1 := blk_frozen H0D.out 1; have y2 := blk_frozen H0D.out 2; have y3 := blk_frozen H0D.out 3; have z0 := H0D.out.cell 0; have z1 := H0D.out.cell 1; have z2 := H0D.out.cell 2; have z3 := H0D.out.cell 3
      simp only [List.getElem?_toArray, List.getElem?_cons_zero, List.getElem?_cons_succ] at x0 x1 x2 x3 z0 z1 z2 z3
      have X0 := HT.out.cell 0; have X1 := HT.out.cell 1; have X2 := HT.out.cell 2; have X3 := HT.out.cell 3; have Y0 := blk_frozen H0.out 0; have Y1 := blk_frozen H0.out 1; have Y2 := blk_frozen H0.out 2; have Y3 := blk_frozen H0.out 3; have Z0 := H0.out.cell 0; have Z1 := H0.out.cell 1; have Z2 := H0.out.cell 2; have Z3 := H0.out.cell 3
      simp only [List.getElem?_toArray, List.getElem?_cons_zero, List.getElem?_cons_succ] at X0 X1 X2 X3 Z0 Z1 Z2 Z3
      go_wp2
      cases s with
      | none =>
        go_region_law (go_simp; go_at_call 70; refine (okO w0 _ g none (RdO.below HL.out.1 (below_drew1 (Below.refl _ _)))).mono ?_; rintro e w2 ⟨rfl, rfl⟩)
        all_goals
          go_wp2_with (fail)
          refine bodyPost_ret (results_ct rfl _ _ w.heap.size 26 #[.int .i64 c, .int .u64 0, .slice A2 n2 c2, .slice A3 n3 c3] (0, 0) _ rfl ((set4 H0.out _ _ _ _).below (below_drew1 (Below.refl _ _))) Try.underlying26 rfl (by kernel_rfl)) rfl ?_
          rw [HEE.out]
          exact ⟨c, 0, A2, n2, c2, A3, n3, c3, none, rfl, left_below (HKO.out _ _ _ _).2.2 (below_drew1 (Below.refl _ _))⟩
      | some r' =>
        go_region_law (go_simp; go_at_call 70; refine (okO w0 _ g (some r') (RdO.below HL.out.1 (below_drew1 (Below.refl _ _)))).mono ?_; rintro e w2 ⟨rfl, rfl⟩)
        all_goals
          go_wp2_with (fail)
          refine bodyPost_ret (results_ct rfl _ _ w.heap.size 26 #[.int .i64 c, .int .u64 0, .slice A2 n2 c2, .slice A3 n3 c3] (0, 0) _ rfl ((set4 H0.out _ _ _ _).below (below_drew1 (Below.refl _ _))) Try.underlying26 rfl (by kernel_rfl)) rfl ?_
          rw [HEE.out]
          exact ⟨.slice A2 n2 c2, .slice A3 n3 c3, rfl, Kd.R_drew (HKO.out _ _ _ _).1, Kd.R_drew (HKO.out _ _ _ _).2.1, left_below (HKO.out _ _ _ _).2.2 (below_drew1 (Below.refl _ _))⟩
set_option maxHeartbeats 8000000 in
set_option maxRecDepth 100000 in
theorem read_oth (d : Nat) (hd : d + 1 ≤ 8) (ih : ∀ w0 w g st, RdO w0 w g st → Below w0.heap.size w0 w → Calls Try.prog 50 #[.pointer (some ⟨g, 0, none⟩), .int .i64 (d : Int)] w (ReadQ w0 w g (readT d st))) (w0 w : World) (g : Nat) (c : Int) (r : List Int) (h : RdO w0 w g (some (c :: r))) (hB : Below w0.heap.size w0 w) (ht : thereB c = true) (hn : numT c = false) (hdt : datT c = false) :
    Calls Try.prog 50 #[.pointer (some ⟨g, 0, none⟩), .int .i64 ((d + 1 : Nat) : Int)] w (ReadQ w0 w g (readT (d + 1) (some (c :: r)))) := by
  have HE := Aside0.mk (show readT (d + 1) (some (c :: r)) = match readK (readT d) (kidT c) ((some r)) with
      | some (ks, some s) => some (⟨c, 0, [], ks⟩, s)
      | _ => none by
    rw [readT, take1]
    simp only [List.getD_cons_zero]
    rw [if_pos ht]
    unfold datR numR
    rw [hn, hdt]
    rfl)
  have hsh := shape_c c
  simp only [shapeV] at hsh
  rw [ht, hn, hdt] at hsh
  have HSH := Aside0.mk hsh
  have HIH := Aside0.mk ih
  have HD8 := Aside0.mk hd
  have hc0 := (show 0 ≤ c ∧ c ≤ 255 from h.u8.1.head).1
  have hc1 := (show 0 ≤ c ∧ c ≤ 255 from h.u8.1.head).2
  have z9 : (((d + 1 : Nat) : Int) == 0) = false := by rw [beq_eq_false_iff_ne]; omega
  have HW1 := Aside0.mk (show wrap64 (((d + 1 : Nat) : Int) - 1) = (d : Int) from dec_i (by omega))
  have HB := Aside0.mk (below_step hB (below_alloc (Below.refl w.heap.size w) (.cells #[.int .i64 0, .int .u64 0, .slice none 0 0, .slice none 0 0] 26)))
  have HS := Aside0.mk (h.below (below_alloc (Below.refl w.heap.size w) (.cells #[.int .i64 0, .int .u64 0, .slice none 0 0, .slice none 0 0] 26)))
  have H0 := Aside0.mk (show Blk (w.alloc (.cells #[.int .i64 0, .int .u64 0, .slice none 0 0, .slice none 0 0] 26)) w.heap.size 26 #[.int .i64 0, .int .u64 0, .slice none 0 0, .slice none 0 0] from blk_new _ _)
  have HG := Aside0.mk (show w0.heap.size ≤ w.heap.size ∧ g < w.heap.size from ⟨hB.size, h.blk.2.1⟩)
  have HKW := Aside0.mk (KeepBut.of_below (below_alloc (Below.refl w.heap.size w) (.cells #[.int .i64 0, .int .u64 0, .slice none 0 0, .slice none 0 0] 26)) g none)
  have hu26 := Try.underlying26
  have hu69 := Try.underlying69
  obtain ⟨D, hD⟩ : ∃ D : Int, ((d + 1 : Nat) : Int) = D := ⟨_, rfl⟩
  rw [hD] at z9 HW1 ⊢
  clear h hB ht hd hsh hD ih hn hdt
  go_enter Try.func50, Try.ntmps50
  go_upto_region 12 with (first
    | (go_at_call 69; refine (takeO_ w0 _ g (some (c :: r)) 1 HS.out HB.out).mono ?_; rintro e w1 ⟨v, rfl, ho, hl⟩; rw [take1] at ho hl; obtain ⟨A5, c5, rfl, hl5, hr5⟩ := Ob.reads ho; obtain ⟨ad5, rfl, hc5⟩ := Rb.at0 hr5; have HL := Aside0.mk (show Tlv.Left w0 w w1 g (some r) from ⟨hl.1, hl.2.1, HKW.out.trans hl.2.2 (.inl rfl)⟩); have H01 := Aside0.mk (H0.out.keep hl.2.2 (by have := HG.out; omega)); clear ho hl hl5 hr5)
    | (go_at_call 70; refine (okO w0 _ g (some r) HL.out.1).mono ?_; rintro e w2 ⟨rfl, rfl⟩)
    | (go_at_call 43; go_must (refine (HSH.out _).mono ?_; rintro e w3 ⟨rfl, hb⟩; have HL3 := Aside0.mk (left_below (left_below HL.out (below_alloc (Below.refl _ _) _)) hb); have H03 := Aside0.mk ((H01.out.alloc (.cells #[.int .i64 c, .int .u64 0, .slice none 0 0, .slice none 0 0] 26)).below hb); have HT3 := Aside0.mk ((show Blk (w1.alloc (.cells #[.int .i64 c, .int .u64 0, .slice none 0 0, .slice none 0 0] 26)) w1.heap.size 26 #[.int .i64 c, .int .u64 0, .slice none 0 0, .slice none 0 0] from blk_new _ _).below hb); have HZ3 := Aside0.mk (show w1.heap.size < w3.heap.size by have := hb.size; simp at this; omega); have HS3 := Aside0.mk (show Blk (w3.alloc (.cells #[.bool true, .bool false, .bool false, .int .i64 (kidT c : Int)] 69)) w3.heap.size 69 #[.bool true, .bool false, .bool false, .int .i64 (kidT c : Int)] from blk_new _ _); have HT4 := Aside0.mk (HT3.out.alloc (.cells #[.bool true, .bool false, .bool false, .int .i64 (kidT c : Int)] 69)); have HL4 := Aside0.mk (left_below HL3.out (below_alloc (Below.refl _ _) (.cells #[.bool true, .bool false, .bool false, .int .i64 (kidT c : Int)] 69))); have H04 := Aside0.mk (H03.out.alloc (.cells #[.bool true, .bool false, .bool false, .int .i64 (kidT c : Int)] 69)); have m0 := HS3.out.cell 0; have m1 := HS3.out.cell 1; have m2 := HS3.out.cell 2; have m3 := HS3.out.cell 3; simp only [List.getElem?_toArray, List.getElem?_cons_zero, List.getElem?_cons_succ] at m0 m1 m2 m3; clear hb)))
  obtain ⟨W, hW⟩ : ∃ W, w3.alloc (.cells #[.bool true, .bool false, .bool false, .int .i64 (kidT c : Int)] 69) = W := ⟨_, rfl⟩
  have HKD := Aside0.mk (show Kids w0 w W g w1.heap.size c 0 [] [] ((some r)) (w1.heap.size + 1) by rw [← hW]; exact ⟨.slice none 0 0, .slice none 0 0, ⟨_, _, _, rfl⟩, ⟨_, _, _, rfl⟩, HT4.out, Kd.R_nil _ _ _ _ _, Kd.R_nil _ _ _ _ _, HL4.out, H04.out⟩)
  have HSW := Aside0.mk (show Blk W w3.heap.size 69 #[.bool true, .bool false, .bool false, .int .i64 (kidT c : Int)] by rw [← hW]; exact HS3.out)
  rw [hW]
  have HGT := Aside0.mk (show w.heap.size < w1.heap.size by have := HL.out.2.2.1; have := H01.out.lt; omega)
  obtain ⟨gt, hgt⟩ : ∃ k, w1.heap.size = k := ⟨_, rfl⟩
  obtain ⟨gs, hgs⟩ : ∃ k, w3.heap.size = k := ⟨_, rfl⟩
  rw [hgt] at HKD HGT ⊢
  rw [hgs] at HSW ⊢
  obtain ⟨s2, hs2⟩ : ∃ k : Option (List Int), (some r) = k := ⟨_, rfl⟩
  obtain ⟨N, hN⟩ : ∃ k, kidT c = k := ⟨_, rfl⟩
  have HNL := Aside0.mk (show N ≤ 2 by rw [← hN]; exact kid_len c)
  simp only [hs2, hN] at HKD HE HSW ⊢
  have hw9 := HW1.out
  have q3 := HSW.out.cell 3
  simp only [List.getElem?_toArray, List.getElem?_cons_zero, List.getElem?_cons_succ] at q3
  clear hW hgt hgs hN m0 m1 m2 m3 hs2
  go_wp2
  go_loopg [45] N (fun gf s45 wx => ∃ (i : Nat) (ks : List ST) (s : Option (List Int)) (wy : World), wy = wx ∧ s45 = .int .i64 (i : Int) ∧ i + gf = N ∧ ks.length = i ∧ Kids w0 w wy g gt c 0 [] ks s (gt + 1) ∧ Rest d N s2 i ks s)
  case atStart => exact ⟨0, [], s2, _, rfl, rfl, by omega, rfl, HKD.out, by simp [Rest]; cases readK (readT d) N s2 <;> simp⟩
  case round =>
    obtain ⟨i, ks, s, wx, rfl, rfl, hi, hkl, ⟨v2, v3, ⟨A2, n2, c2, rfl⟩, ⟨A3, n3, c3, rfl⟩, hT, hO, hR, hL, h0⟩, hRe⟩ := hrel
    have HQ := Aside0.mk hi; have HLK := Aside0.mk hkl; have HT := Aside0.mk hT; have HO := Aside0.mk hO; have HR := Aside0.mk hR; have HL := Aside0.mk hL; have H0 := Aside0.mk h0; have HRE := Aside0.mk hRe
    clear hi hkl hT hO hR hL h0 hRe HKD HSW HL3 H03 HT3 HS3 HT4 HL4 H04 
    by_cases hlt : i < N
    · have hl1 : decide ((i : Int) < (N : Int)) = true := decide_eq_true (by omega)
      have hw1 : wrap64 ((i : Int) + 1) = ((i + 1 : Nat) : Int) := by have := HNL.out; rw [Aid.w64 (by omega) (by omega)]; omega
      have hc := HIH.out w0 wx g s HL.out.1 HL.out.2.1
      cases hr : readT d s with
      | none =>
        rw [hr] at hc
        have HC := Aside0.mk hc
        have HEE := Aside0.mk (HE.out.trans (by rw [rest_none HRE.out hlt hr]))
        clear hc hr
        go_wp2_with (go_at_call 50; refine HC.out.mono ?_; rintro e w' ⟨y0, y1, B2, m2, e2, B3, m3, e3, s', rfl, hl'⟩; have HL' := Aside0.mk (HL.out.trans hl'); have H0' := Aside0.mk (H0.out.keep hl'.2.2 (by have := HG.out; omega)); have y0_ := fun o => blk_frozen (H0'.out.alloc o) 0; have y1_ := fun o => blk_frozen (H0'.out.alloc o) 1; have y2_ := fun o => blk_frozen (H0'.out.alloc o) 2; have y3_ := fun o => blk_frozen (H0'.out.alloc o) 3; have z0 := fun o => (H0'.out.alloc o).cell 0; have z1 := fun o => (H0'.out.alloc o).cell 1; have z2 := fun o => (H0'.out.alloc o).cell 2; have z3 := fun o => (H0'.out.alloc o).cell 3; simp only [List.getElem?_toArray, List.getElem?_cons_zero, List.getElem?_cons_succ] at z0 z1 z2 z3; clear hl')
        refine bodyPost_ret (results_ct rfl _ _ w.heap.size 26 #[.int .i64 0, .int .u64 0, .slice none 0 0, .slice none 0 0] (0, 0) _ rfl (set4 (H0'.out.alloc _) _ _ _ _) Try.underlying26 rfl (by kernel_rfl)) rfl ?_
        rw [HEE.out]
        exact ⟨0, 0, none, 0, 0, none, 0, 0, _, rfl, left_set4 (left_below HL'.out (below_alloc (Below.refl _ _) _)) (H0'.out.alloc _) (by simp [NoU8]) (by simp [NoU8]) (by simp [NoU8]) (by simp [NoU8]) (by have := HG.out; omega) HG.out.1 (Nat.le_refl _) _ _ _ _⟩
      | some p =>
        obtain ⟨x, r'⟩ := p
        rw [hr] at hc
        have HC := Aside0.mk hc
        have HRS := Aside0.mk (rest_some HRE.out hlt hr)
        clear hc hr
        go_wp2_with (first
          | (go_at_call 50; refine HC.out.mono ?_; rintro e w' ⟨q2, q3_, rfl, ho2, ho3, hl'⟩; obtain ⟨B2, e2, rfl⟩ := Kd.R_slice ho2; obtain ⟨B3, e3, rfl⟩ := Kd.R_slice ho3
             have HL' := Aside0.mk (left_below (HL.out.trans hl') (below_alloc (Below.refl _ _) (.cells #[.int .i64 x.f0, .int .u64 x.f1, .slice B2 x.f2.length e2, .slice B3 x.f3.length e3] 26))); have H0' := Aside0.mk ((H0.out.keep hl'.2.2 (by have := HG.out; omega)).alloc (.cells #[.int .i64 x.f0, .int .u64 x.f1, .slice B2 x.f2.length e2, .slice B3 x.f3.length e3] 26)); have HT' := Aside0.mk ((HT.out.keep hl'.2.2 (by have := HG.out; have := HGT.out; omega)).alloc (.cells #[.int .i64 x.f0, .int .u64 x.f1, .slice B2 x.f2.length e2, .slice B3 x.f3.length e3] 26))
             have HO' := Aside0.mk (Kd.R_alloc (row_keep HL.out.1 HO.out hl'.2.2) (.cells #[.int .i64 x.f0, .int .u64 x.f1, .slice B2 x.f2.length e2, .slice B3 x.f3.length e3] 26)); have HR' := Aside0.mk (Kd.R_alloc (Kd.R_keep HR.out hl'.2.2 (fun _ h => h.1.1)) (.cells #[.int .i64 x.f0, .int .u64 x.f1, .slice B2 x.f2.length e2, .slice B3 x.f3.length e3] 26))
             have HM := Aside0.mk (k26_mkM _ (gt + 1) (fun k => wx.heap.size ≤ k) x (Kd.R_mono (Kd.R_lower (Kd.R_bound (Kd.R_alloc ho2 (.cells #[.int .i64 x.f0, .int .u64 x.f1, .slice B2 x.f2.length e2, .slice B3 x.f3.length e3] 26))) (by have := HT.out.lt; omega)) (fun _ h => h.2.1)) (Kd.R_mono (Kd.R_lower (Kd.R_bound (Kd.R_alloc ho3 (.cells #[.int .i64 x.f0, .int .u64 x.f1, .slice B2 x.f2.length e2, .slice B3 x.f3.length e3] 26))) (by have := HT.out.lt; omega)) (fun _ h => h.2.1)))
             have HOK := Aside0.mk (show ∀ k, wx.heap.size ≤ k → ((k ≠ g ∧ k ≠ gt) ∧ some k ≠ (Value.slice A2 n2 c2).ownBlock) ∧ some k ≠ (Value.slice A3 n3 c3).ownBlock from fun k hk => ⟨⟨⟨by have := HG.out; have := HT.out.lt; have := HGT.out; omega, by have := HT.out.lt; omega⟩, fun e => by have := Kd.R_lt HO.out k e.symm; omega⟩, fun e => by have := Kd.R_lt HR.out k e.symm; omega⟩)
             have HSZ := Aside0.mk (show gt + 1 ≤ (w'.alloc (.cells #[.int .i64 x.f0, .int .u64 x.f1, .slice B2 x.f2.length e2, .slice B3 x.f3.length e3] 26)).heap.size from HT'.out.lt)
             have HFR := Aside0.mk (show ∀ k, (w'.alloc (.cells #[.int .i64 x.f0, .int .u64 x.f1, .slice B2 x.f2.length e2, .slice B3 x.f3.length e3] 26)).heap.size ≤ k → (k ≠ g ∧ k ≠ gt) ∧ some k ≠ (Value.slice A2 n2 c2).ownBlock from fun k hk => ⟨⟨by have := HG.out; have := HGT.out; have := HSZ.out; omega, by have := HSZ.out; omega⟩, fun e => by have := Kd.R_lt HO'.out k e.symm; omega⟩)
             have HLN := Aside0.mk (show (ks.length + 1) * 64 ≤ 140737488355328 by have := HLK.out; have := HQ.out; have := HNL.out; omega)
             have y3_ := HT'.out.cell 3; simp only [List.getElem?_toArray, List.getElem?_cons_zero, List.getElem?_cons_succ] at y3_
             clear ho2 ho3 hl')
          | ((with_reducible refine gate_builtin (b := .append) (xs := #[.tmp 58, .tmp 60]) rfl ?_); at_builtin; go_must (refine Kd.R_append k26 (gt + 1) rfl (.tmp 58) (.tmp 60) 24 26 (.agg #[.int .i64 0, .int .u64 0, .slice none 0 0, .slice none 0 0]) 64 rfl Try.underlying24 info_t rfl (by decide) (by decide) _ ks x _ (fun k => (k ≠ g ∧ k ≠ gt) ∧ some k ≠ (Value.slice A2 n2 c2).ownBlock) (fun k => wx.heap.size ≤ k) rfl (by rw [size_alloc]; rfl) HM.out HOK.out HFR.out HR'.out (Below.refl _ _) HSZ.out HLN.out ?_); intro v1 w1' hr1 hb1 hg1 _; obtain ⟨A9, c9, rfl⟩ := Kd.R_slice hr1; have HMORE := Aside0.mk (kids_more HT'.out HO'.out HR'.out HL'.out H0'.out hr1 hb1 hg1 HG.out HGT.out); have y3 := blk_frozen HMORE.out.1 3; have y4 := HMORE.out.1.cell 3; simp only [List.getElem?_toArray, List.getElem?_cons_zero, List.getElem?_cons_succ] at y4; clear hr1 hb1 hg1))
        go_roundg (N - (i + 1))
        case measure => have := HQ.out; omega
        case rel => exact ⟨i + 1, ks ++ [x], some r', _, rfl, by first | rfl | rw [hw1], by omega, by simp [HLK.out], by have hm := HMORE.out.2; rw [List.length_append] at hm; exact hm, HRS.out⟩
    · have hl1 : decide ((i : Int) < (N : Int)) = false := decide_eq_false (by omega)
      have HEE := Aside0.mk (HE.out.trans (by rw [rest_end HRE.out (by omega)]))
      have HKO := Aside0.mk (kids_out HO.out HR.out (fun _ h => h.2) HL.out H0.out HG.out HGT.out)
      have HTD := Aside0.mk (HT.out.below (below_drew1 (Below.refl _ _)))
      have H0D := Aside0.mk (H0.out.below (below_drew1 (Below.refl _ _)))
      have x0 := HTD.out.cell 0; have x1 := HTD.out.cell 1; have x2 := HTD.out.cell 2; have x3 := HTD.out.cell 3; have y0 := blk_frozen H0D.out 0; have y1 := blk_frozen H0D.out 1; have y2 := blk_frozen H0D.out 2; have y3 := blk_frozen H0D.out 3; have z0 := H0D.out.cell 0; have z1 := H0D.out.cell 1; have z2 := H0D.out.cell 2; have z3 := H0D.out.cell 3
      simp only [List.getElem?_toArray, List.getElem?_cons_zero, List.getElem?_cons_succ] at x0 x1 x2 x3 z0 z1 z2 z3
      have X0 := HT.out.cell 0; have X1 := HT.out.cell 1; have X2 := HT.out.cell 2; have X3 := HT.out.cell 3; have Y0 := blk_frozen H0.out 0; have Y1 := blk_frozen H0.out 1; have Y2 := blk_frozen H0.out 2; have Y3 := blk_frozen H0.out 3; have Z0 := H0.out.cell 0; have Z1 := H0.out.cell 1; have Z2 := H0.out.cell 2; have Z3 := H0.out.cell 3
      simp only [List.getElem?_toArray, List.getElem?_cons_zero, List.getElem?_cons_succ] at X0 X1 X2 X3 Z0 Z1 Z2 Z3
      go_wp2
      cases s with
      | none =>
        go_region_law (go_simp; go_at_call 70; refine (okO w0 _ g none (RdO.below HL.out.1 (below_drew1 (Below.refl _ _)))).mono ?_; rintro e w2 ⟨rfl, rfl⟩)
        all_goals
          go_wp2_with (fail)
          refine bodyPost_ret (results_ct rfl _ _ w.heap.size 26 #[.int .i64 c, .int .u64 0, .slice A2 n2 c2, .slice A3 n3 c3] (0, 0) _ rfl ((set4 H0.out _ _ _ _).below (below_drew1 (Below.refl _ _))) Try.underlying26 rfl (by kernel_rfl)) rfl ?_
          rw [HEE.out]
          exact ⟨c, 0, A2, n2, c2, A3, n3, c3, none, rfl, left_below (HKO.out _ _ _ _).2.2 (below_drew1 (Below.refl _ _))⟩
      | some r' =>
        go_region_law (go_simp; go_at_call 70; refine (okO w0 _ g (some r') (RdO.below HL.out.1 (below_drew1 (Below.refl _ _)))).mono ?_; rintro e w2 ⟨rfl, rfl⟩)
        all_goals
          go_wp2_with (fail)
          refine bodyPost_ret (results_ct rfl _ _ w.heap.size 26 #[.int .i64 c, .int .u64 0, .slice A2 n2 c2, .slice A3 n3 c3] (0, 0) _ rfl ((set4 H0.out _ _ _ _).below (below_drew1 (Below.refl _ _))) Try.underlying26 rfl (by kernel_rfl)) rfl ?_
          rw [HEE.out]
          exact ⟨.slice A2 n2 c2, .slice A3 n3 c3, rfl, Kd.R_drew (HKO.out _ _ _ _).1, Kd.R_drew (HKO.out _ _ _ _).2.1, left_below (HKO.out _ _ _ _).2.2 (below_drew1 (Below.refl _ _))⟩
set_option maxHeartbeats 1000000 in
theorem read_c : ∀ (d : Nat), d ≤ 8 → ∀ (w0 w : World) (g : Nat) (st : Option (List Int)), RdO w0 w g st → Below w0.heap.size w0 w →
    Calls Try.prog 50 #[.pointer (some ⟨g, 0, none⟩), .int .i64 (d : Int)] w (ReadQ w0 w g (readT d st)) := by
  intro d
  induction d with
  | zero =>
    intro hd w0 w g st h hB
    match st, h with
    | none, h => exact read_fail 0 hd w0 w g none h hB (by simp [takeO])
    | some [], h => exact read_fail 0 hd w0 w g (some []) h hB (by simp [takeO])
    | some (c :: r), h => exact read_zero w0 w g c r h hB
  | succ d ih =>
    intro hd w0 w g st h hB
    match st, h with
    | none, h => exact read_fail (d + 1) hd w0 w g none h hB (by simp [takeO])
    | some [], h => exact read_fail (d + 1) hd w0 w g (some []) h hB (by simp [takeO])
    | some (c :: r), h =>
      have ih' := ih (by omega)
      cases ht : thereB c with
      | false => exact read_no d hd w0 w g c r h hB ht
      | true =>
        cases hn : numT c with
        | true =>
          cases hdt : datT c with
          | true => simp [numT, datT] at hn hdt; omega
          | false => exact read_num d hd ih' w0 w g c r h hB ht hn hdt
        | false =>
          cases hdt : datT c with
          | true => exact read_dat d hd ih' w0 w g c r h hB ht hn hdt
          | false => exact read_oth d hd ih' w0 w g c r h hB ht hn hdt
end Go.Proofs.Ytgohmganimamcaa.Term
/- term.Get walked: the term that bytes begin with. -/
namespace Go.Proofs.Ytgohmganimamcaa.Term
set_option linter.unusedVariables false
set_option linter.unusedSimpArgs false
open Go.RowKit Go.Proofs.Ytgohmganimamcaa.Base Go.Proofs.Ytgohmganimamcaa.TlvPlain Go.Proofs.Ytgohmganimamcaa.Lo Go.Proofs.Ytgohmganimamcaa.RdPlain Go.Proofs.Ytgohmganimamcaa.Aid Go.Proofs.Ytgohmganimamcaa.PZ Go.Proofs.YtgohmganimamcaaW.PrintWords Go.Proofs.YtgohmganimamcaaW.PrintLast Go.Proofs.YtgohmganimamcaaW.PrintMore
open Tlv (RdO takeO_ okO leftO_ newO)
def GetQ (w : World) (b : List Int) (e : Ending) (w' : World) : Prop := ∃ v2 v3, e = .returned (.tuple #[.agg #[.int .i64 (getT b).1.f0, .int .u64 (getT b).1.f1, v2, v3], .int .i64 (getT b).2.1, .int .i64 (getT b).2.2]) ∧ Ob w' w.heap.size v2 (getT b).1.f2 ∧ Kd.R k26 26 w' w.heap.size (fun k => some k ≠ v2.ownBlock) v3 (getT b).1.f3 ∧ Below w.heap.size w w'
theorem get_no {b bs : List Int} (hbs : b.take 400 = bs) (h : readT 8 (some bs) = none) : getT b = (zT, 0, 2) := by unfold getT; rw [hbs, h]
theorem get_bad {b bs : List Int} (hbs : b.take 400 = bs) {x : ST} {r : List Int} (h : readT 8 (some bs) = some (x, r)) (hm : mayT 8 x = false) : getT b = (zT, 0, 2) := by unfold getT; rw [hbs, h]; dsimp only; rw [if_neg (by rw [hm]; decide)]
theorem get_ok {b bs : List Int} (hbs : b.take 400 = bs) {x : ST} {r : List Int} (h : readT 8 (some bs) = some (x, r)) (hm : mayT 8 x = true) : getT b = (x, (bs.length : Int) - r.length, 0) := by unfold getT; rw [hbs, h]; dsimp only; rw [if_pos hm]
theorem below_set4 {w W : World} (h : Below w.heap.size w W) (a b c d : Value) : Below w.heap.size w ((((W.setCell ⟨w.heap.size, 0, none⟩ a).setCell ⟨w.heap.size, 1, none⟩ b).setCell ⟨w.heap.size, 2, none⟩ c).setCell ⟨w.heap.size, 3, none⟩ d) :=
  below_set (below_set (below_set (below_set h (Nat.le_refl _)) (Nat.le_refl _)) (Nat.le_refl _)) (Nat.le_refl _)
theorem r_set4 {α : Type} {d : Kd α} {e : Nat} {W : World} {q base : Nat} {v : Value} {xs : List α} {ok : Nat → Prop} (h : Kd.R d e W base ok v xs) (hb : q < base) (a b c f : Value) : Kd.R d e ((((W.setCell ⟨q, 0, none⟩ a).setCell ⟨q, 1, none⟩ b).setCell ⟨q, 2, none⟩ c).setCell ⟨q, 3, none⟩ f) q ok v xs :=
  Kd.R_mono (Kd.R_lower (Kd.R_keep (Kd.R_bound h) (((((KeepBut.refl W q none).set_ 0 a).set_ 1 b).set_ 2 c).set_ 3 f) (fun k hk => by have := hk.2.1; omega)) (by omega)) (fun _ h => h.1)
set_option maxHeartbeats 4000000 in
set_option maxRecDepth 100000 in
theorem get_lo (w : World) (A : Option Addr) (c : Nat) (b : List Int) (hr : Rb w A b) (hc : b.length ≤ c) (hl : b.length < 140737488355328) (hu : U8 b) (h4 : b.length ≤ 400) (bs : List Int) (hbs : b.take 400 = bs) :
    Calls Try.prog 18 #[.slice A b.length c] w (GetQ w b) := by
  have hbb : bs = b := by rw [← hbs]; exact List.take_of_length_le h4
  have hn : bs.length = b.length := by rw [hbb]
  have hrb : Rb w A bs := by rw [hbb]; exact hr
  have hub : U8 bs := by rw [hbb]; exact hu
  have hcb : bs.length ≤ c := by omega
  have hlb : bs.length < 140737488355328 := by omega
  have h41 : (b.length : Int) ≤ 400 := by omega
  have h42 : decide ((b.length : Int) ≤ 400) = true := decide_eq_true h41
  clear hbb
  have HBS := Aside0.mk hbs
  have HR := Aside0.mk hrb
  have HC := Aside0.mk hcb
  have HL := Aside0.mk hlb
  have HU := Aside0.mk hub
  have HN1 := Aside0.mk hn
  have HN := Aside0.mk (show ((b.length : Int) : Int) = (bs.length : Int) by omega)
  have HB := Aside0.mk (below_alloc (Below.refl w.heap.size w) (.cells #[.int .i64 0, .int .u64 0, .slice none 0 0, .slice none 0 0] 26))
  have H0 := Aside0.mk (show Blk (w.alloc (.cells #[.int .i64 0, .int .u64 0, .slice none 0 0, .slice none 0 0] 26)) w.heap.size 26 #[.int .i64 0, .int .u64 0, .slice none 0 0, .slice none 0 0] from blk_new _ _)
  have hu26 := Try.underlying26
  have hu23 := Try.underlying23
  clear hr hl hu hbs hrb hcb hlb hub hn
  go_enter Try.func18, Try.ntmps18
  go_wp2_with (fail)
  have hNew := newO A c bs _ (Kd.C_below HR.out HB.out) HC.out HL.out HU.out
  rw [HN1.out] at hNew
  refine hNew.mono ?_
  rintro e w1 ⟨g, rfl, hs, hb⟩
  have HS := Aside0.mk (RdO.lower hs HB.out.size)
  have HG := Aside0.mk (show w.heap.size + 1 ≤ g by have := hs.blk.1; simpa using this)
  have HB1 := Aside0.mk (below_step HB.out hb)
  have H1 := Aside0.mk (H0.out.below hb)
  clear hs hb HR
  clear hNew
  have hc := read_c 8 (by decide) w w1 g (some bs) HS.out HB1.out
  have hwf := fun x r => read_wf 8 bs x r HU.out
  cases hr : readT 8 (some bs) with
  | none =>
    rw [hr] at hc
    have HCC := Aside0.mk hc
    have HE := Aside0.mk (get_no HBS.out hr)
    clear hc hr hwf
    go_wp2_with (go_at_call 50; refine HCC.out.mono ?_; rintro e w' ⟨y0, y1, B2, m2, e2, B3, m3, e3, s', rfl, hl'⟩; have H0' := Aside0.mk (H1.out.keep hl'.2.2 (by have := HG.out; omega)); have HB' := Aside0.mk hl'.2.1; have z0 := fun o => (H0'.out.alloc o).cell 0; have z1 := fun o => (H0'.out.alloc o).cell 1; have z2 := fun o => (H0'.out.alloc o).cell 2; have z3 := fun o => (H0'.out.alloc o).cell 3; have y0 := fun o => blk_frozen (H0'.out.alloc o) 0; have y1 := fun o => blk_frozen (H0'.out.alloc o) 1; have y2 := fun o => blk_frozen (H0'.out.alloc o) 2; have y3 := fun o => blk_frozen (H0'.out.alloc o) 3; simp only [List.getElem?_toArray, List.getElem?_cons_zero, List.getElem?_cons_succ] at z0 z1 z2 z3; clear hl')
    refine bodyPost_ret (results_ctt rfl _ _ w.heap.size 26 #[.int .i64 0, .int .u64 0, .slice none 0 0, .slice none 0 0] (0, 0) _ rfl (set4 (H0'.out.alloc _) _ _ _ _) Try.underlying26 rfl (by kernel_rfl)) rfl ?_
    unfold GetQ
    rw [HE.out]
    exact ⟨_, _, rfl, Kd.R_nil _ _ _ _ _, Kd.R_nil _ _ _ _ _, below_set4 (below_alloc HB'.out _) _ _ _ _⟩
  | some p =>
    obtain ⟨x, r'⟩ := p
    rw [hr] at hc
    have HCC := Aside0.mk hc
    have HWF := Aside0.mk (hwf x r' hr)
    clear hc hwf
    cases hm : mayT 8 x with
    | false =>
      have HE := Aside0.mk (get_bad HBS.out hr hm)
      have HM := Aside0.mk hm
      clear hr hm
      go_wp2_with (first
        | (go_at_call 50; refine HCC.out.mono ?_; rintro e w' ⟨q2, q3, rfl, ho2, ho3, hl'⟩; obtain ⟨B2, e2, rfl, k2, r2⟩ := Kd.R_reads ho2; obtain ⟨B3, e3, rfl, k3, r3⟩ := Kd.R_reads ho3; have H0' := Aside0.mk ((H1.out.keep hl'.2.2 (by have := HG.out; omega)).alloc (.cells #[.int .i64 x.f0, .int .u64 x.f1, .slice B2 x.f2.length e2, .slice B3 x.f3.length e3] 26)); have HB' := Aside0.mk (below_alloc hl'.2.1 (.cells #[.int .i64 x.f0, .int .u64 x.f1, .slice B2 x.f2.length e2, .slice B3 x.f3.length e3] 26)); have HCK := Aside0.mk (check_c x B2 e2 B3 e3 (w'.alloc (.cells #[.int .i64 x.f0, .int .u64 x.f1, .slice B2 x.f2.length e2, .slice B3 x.f3.length e3] 26)) ⟨⟨k2, Kd.C_alloc r2 _⟩, k3, Kd.C_alloc r3 _⟩); clear hl' ho2 ho3 k2 k3 r2 r3)
        | (go_at_call 16; refine HCK.out.mono ?_; rw [HM.out, if_neg (by decide)]; rintro e w2 ⟨rfl, hb⟩; have H0'' := Aside0.mk (H0'.out.below hb); have HB'' := Aside0.mk (below_step HB'.out hb); have z0 := H0''.out.cell 0; have z1 := H0''.out.cell 1; have z2 := H0''.out.cell 2; have z3 := H0''.out.cell 3; have y0 := blk_frozen H0''.out 0; have y1 := blk_frozen H0''.out 1; have y2 := blk_frozen H0''.out 2; have y3 := blk_frozen H0''.out 3; simp only [List.getElem?_toArray, List.getElem?_cons_zero, List.getElem?_cons_succ] at z0 z1 z2 z3; clear hb))
      refine bodyPost_ret (results_ctt rfl _ _ w.heap.size 26 #[.int .i64 0, .int .u64 0, .slice none 0 0, .slice none 0 0] (0, 0) _ rfl (set4 H0''.out _ _ _ _) Try.underlying26 rfl (by kernel_rfl)) rfl ?_
      unfold GetQ
      rw [HE.out]
      exact ⟨_, _, rfl, Kd.R_nil _ _ _ _ _, Kd.R_nil _ _ _ _ _, below_set4 HB''.out _ _ _ _⟩
    | true =>
      have HE := Aside0.mk (get_ok HBS.out hr hm)
      have HM := Aside0.mk hm
      have HLE := Aside0.mk (show r'.length ≤ bs.length by have h := (read_back 8 bs x r' HU.out hr).1; rw [h, List.length_append]; omega)
      clear hr hm
      go_upto_region 6 with (first
        | (go_at_call 50; refine HCC.out.mono ?_; rintro e w' ⟨q2, q3, rfl, ho2, ho3, hl'⟩; obtain ⟨B2, e2, rfl, k2, r2⟩ := Kd.R_reads ho2; obtain ⟨B3, e3, rfl, k3, r3⟩ := Kd.R_reads ho3; have HT' := Aside0.mk (show Blk (w'.alloc (.cells #[.int .i64 x.f0, .int .u64 x.f1, .slice B2 x.f2.length e2, .slice B3 x.f3.length e3] 26)) w'.heap.size 26 #[.int .i64 x.f0, .int .u64 x.f1, .slice B2 x.f2.length e2, .slice B3 x.f3.length e3] from blk_new _ _); have HO2 := Aside0.mk (Kd.R_alloc ho2 (.cells #[.int .i64 x.f0, .int .u64 x.f1, .slice B2 x.f2.length e2, .slice B3 x.f3.length e3] 26)); have HO3 := Aside0.mk (Kd.R_alloc ho3 (.cells #[.int .i64 x.f0, .int .u64 x.f1, .slice B2 x.f2.length e2, .slice B3 x.f3.length e3] 26)); have HS' := Aside0.mk (hl'.1.below (below_alloc (Below.refl _ _) (.cells #[.int .i64 x.f0, .int .u64 x.f1, .slice B2 x.f2.length e2, .slice B3 x.f3.length e3] 26))); have H0' := Aside0.mk ((H1.out.keep hl'.2.2 (by have := HG.out; omega)).alloc (.cells #[.int .i64 x.f0, .int .u64 x.f1, .slice B2 x.f2.length e2, .slice B3 x.f3.length e3] 26)); have HB' := Aside0.mk (below_alloc hl'.2.1 (.cells #[.int .i64 x.f0, .int .u64 x.f1, .slice B2 x.f2.length e2, .slice B3 x.f3.length e3] 26)); have HCK := Aside0.mk (check_c x B2 e2 B3 e3 (w'.alloc (.cells #[.int .i64 x.f0, .int .u64 x.f1, .slice B2 x.f2.length e2, .slice B3 x.f3.length e3] 26)) ⟨⟨k2, Kd.C_alloc r2 _⟩, k3, Kd.C_alloc r3 _⟩); clear hl' ho2 ho3 k2 k3 r2 r3)
        | (go_at_call 16; refine HCK.out.mono ?_; rw [HM.out, if_pos rfl]; rintro e w2 ⟨rfl, hb⟩; have H0'' := Aside0.mk (H0'.out.below hb); have HT'' := Aside0.mk (HT'.out.below hb); have HO2' := Aside0.mk (Kd.R_below HO2.out hb); have HO3' := Aside0.mk (Kd.R_below HO3.out hb); have HS'' := Aside0.mk (HS'.out.below hb); have HB'' := Aside0.mk (below_step HB'.out hb); clear hb))
      have HOK := Aside0.mk (fun a b c f => (⟨Kd.R_drew (r_set4 (q := w.heap.size) HO2'.out (by have := HB1.out.size; have := HG.out; have := HS.out.blk.2.1; omega) a b c f), Kd.R_drew (r_set4 (q := w.heap.size) HO3'.out (by have := HB1.out.size; have := HG.out; have := HS.out.blk.2.1; omega) a b c f), below_drew1 (below_set4 HB''.out a b c f)⟩ : _ ∧ _ ∧ _))
      obtain ⟨p7, hp7⟩ : ∃ k, w'.heap.size = k := ⟨_, rfl⟩
      rw [hp7] at HT'' ⊢
      have HD := Aside0.mk (HS''.out.below (below_drew1 (Below.refl _ _)))
      have hwn : IntKind.i64.wrap ((b.length : Int) - leftO (some r')) = (bs.length : Int) - r'.length := by have := HN.out; have := HLE.out; have := HL.out; rw [show leftO (some r') = (r'.length : Int) from rfl, IntKind.wrap_i64]; omega
      clear HT' HO2 HO3 HS' H0' HB' HCK HCC H1 H0 HB HS hp7
      have z0 := H0''.out.cell 0; have z1 := H0''.out.cell 1; have z2 := H0''.out.cell 2; have z3 := H0''.out.cell 3; have y0 := blk_frozen H0''.out 0; have y1 := blk_frozen H0''.out 1; have y2 := blk_frozen H0''.out 2; have y3 := blk_frozen H0''.out 3; simp only [List.getElem?_toArray, List.getElem?_cons_zero, List.getElem?_cons_succ] at z0 z1 z2 z3; have Z0 := (H0''.out.below (below_drew1 (Below.refl _ _))).cell 0; have Z1 := (H0''.out.below (below_drew1 (Below.refl _ _))).cell 1; have Z2 := (H0''.out.below (below_drew1 (Below.refl _ _))).cell 2; have Z3 := (H0''.out.below (below_drew1 (Below.refl _ _))).cell 3; have Y0 := blk_frozen (H0''.out.below (below_drew1 (Below.refl _ _))) 0; have Y1 := blk_frozen (H0''.out.below (below_drew1 (Below.refl _ _))) 1; have Y2 := blk_frozen (H0''.out.below (below_drew1 (Below.refl _ _))) 2; have Y3 := blk_frozen (H0''.out.below (below_drew1 (Below.refl _ _))) 3; simp only [List.getElem?_toArray, List.getElem?_cons_zero, List.getElem?_cons_succ] at Z0 Z1 Z2 Z3; have x0 := HT''.out.cell 0; have x1 := HT''.out.cell 1; have x2 := HT''.out.cell 2; have x3 := HT''.out.cell 3; have v0 := blk_frozen HT''.out 0; have v1 := blk_frozen HT''.out 1; have v2 := blk_frozen HT''.out 2; have v3 := blk_frozen HT''.out 3; simp only [List.getElem?_toArray, List.getElem?_cons_zero, List.getElem?_cons_succ] at x0 x1 x2 x3; have X0 := (HT''.out.below (below_drew1 (Below.refl _ _))).cell 0; have X1 := (HT''.out.below (below_drew1 (Below.refl _ _))).cell 1; have X2 := (HT''.out.below (below_drew1 (Below.refl _ _))).cell 2; have X3 := (HT''.out.below (below_drew1 (Below.refl _ _))).cell 3; have V0 := blk_frozen (HT''.out.below (below_drew1 (Below.refl _ _))) 0; have V1 := blk_frozen (HT''.out.below (below_drew1 (Below.refl _ _))) 1; have V2 := blk_frozen (HT''.out.below (below_drew1 (Below.refl _ _))) 2; have V3 := blk_frozen (HT''.out.below (below_drew1 (Below.refl _ _))) 3; simp only [List.getElem?_toArray, List.getElem?_cons_zero, List.getElem?_cons_succ] at X0 X1 X2 X3
      go_region_law (go_simp; go_at_call 51; refine (leftO_ w _ g (some r') HD.out).mono ?_; rintro e w3 ⟨rfl, rfl⟩)
      all_goals
        go_wp2_with (fail)
        refine bodyPost_ret (results_ctt rfl _ _ w.heap.size 26 #[.int .i64 x.f0, .int .u64 x.f1, .slice B2 x.f2.length e2, .slice B3 x.f3.length e3] (0, 0) _ rfl ((set4 H0''.out _ _ _ _).below (below_drew1 (Below.refl _ _))) Try.underlying26 rfl (by kernel_rfl)) rfl ?_
        unfold GetQ
        rw [HE.out, ← hwn]
        exact ⟨_, _, rfl, (HOK.out _ _ _ _).1, (HOK.out _ _ _ _).2.1, (HOK.out _ _ _ _).2.2⟩
set_option maxHeartbeats 4000000 in
set_option maxRecDepth 100000 in
theorem get_hi (w : World) (A : Option Addr) (c : Nat) (b : List Int) (hr : Rb w A b) (hc : b.length ≤ c) (hl : b.length < 140737488355328) (hu : U8 b) (h4 : 400 < b.length) (bs : List Int) (hbs : b.take 400 = bs) :
    Calls Try.prog 18 #[.slice A b.length c] w (GetQ w b) := by
  have hn : bs.length = 400 := by rw [← hbs, List.length_take]; omega
  have hrb : Rb w A bs := by rw [← hbs]; exact Kd.C_take hr (show 400 ≤ b.length by omega)
  have hub : U8 bs := by rw [← hbs]; exact fun x hx => hu x (List.mem_of_mem_take hx)
  have hcb : bs.length ≤ c := by omega
  have hlb : bs.length < 140737488355328 := by omega
  have h41 : ¬ (b.length : Int) ≤ 400 := by omega
  have h42 : decide ((b.length : Int) ≤ 400) = false := decide_eq_false h41
  have h43 : (400 : Int) ≤ (c : Int) := by omega
  have HBS := Aside0.mk hbs
  have HR := Aside0.mk hrb
  have HC := Aside0.mk hcb
  have HL := Aside0.mk hlb
  have HU := Aside0.mk hub
  have HN1 := Aside0.mk hn
  have HN := Aside0.mk (show (400 : Int) = (bs.length : Int) by omega)
  have HB := Aside0.mk (below_alloc (Below.refl w.heap.size w) (.cells #[.int .i64 0, .int .u64 0, .slice none 0 0, .slice none 0 0] 26))
  have H0 := Aside0.mk (show Blk (w.alloc (.cells #[.int .i64 0, .int .u64 0, .slice none 0 0, .slice none 0 0] 26)) w.heap.size 26 #[.int .i64 0, .int .u64 0, .slice none 0 0, .slice none 0 0] from blk_new _ _)
  have hu26 := Try.underlying26
  have hu23 := Try.underlying23
  clear hr hl hu hbs hrb hcb hlb hub hn
  go_enter Try.func18, Try.ntmps18
  go_wp2_with (fail)
  have hNew := newO A c bs _ (Kd.C_below HR.out HB.out) HC.out HL.out HU.out
  rw [HN1.out] at hNew
  refine hNew.mono ?_
  rintro e w1 ⟨g, rfl, hs, hb⟩
  have HS := Aside0.mk (RdO.lower hs HB.out.size)
  have HG := Aside0.mk (show w.heap.size + 1 ≤ g by have := hs.blk.1; simpa using this)
  have HB1 := Aside0.mk (below_step HB.out hb)
  have H1 := Aside0.mk (H0.out.below hb)
  clear hs hb HR
  clear hNew
  have hc := read_c 8 (by decide) w w1 g (some bs) HS.out HB1.out
  have hwf := fun x r => read_wf 8 bs x r HU.out
  cases hr : readT 8 (some bs) with
  | none =>
    rw [hr] at hc
    have HCC := Aside0.mk hc
    have HE := Aside0.mk (get_no HBS.out hr)
    clear hc hr hwf
    go_wp2_with (go_at_call 50; refine HCC.out.mono ?_; rintro e w' ⟨y0, y1, B2, m2, e2, B3, m3, e3, s', rfl, hl'⟩; have H0' := Aside0.mk (H1.out.keep hl'.2.2 (by have := HG.out; omega)); have HB' := Aside0.mk hl'.2.1; have z0 := fun o => (H0'.out.alloc o).cell 0; have z1 := fun o => (H0'.out.alloc o).cell 1; have z2 := fun o => (H0'.out.alloc o).cell 2; have z3 := fun o => (H0'.out.alloc o).cell 3; have y0 := fun o => blk_frozen (H0'.out.alloc o) 0; have y1 := fun o => blk_frozen (H0'.out.alloc o) 1; have y2 := fun o => blk_frozen (H0'.out.alloc o) 2; have y3 := fun o => blk_frozen (H0'.out.alloc o) 3; simp only [List.getElem?_toArray, List.getElem?_cons_zero, List.getElem?_cons_succ] at z0 z1 z2 z3; clear hl')
    refine bodyPost_ret (results_ctt rfl _ _ w.heap.size 26 #[.int .i64 0, .int .u64 0, .slice none 0 0, .slice none 0 0] (0, 0) _ rfl (set4 (H0'.out.alloc _) _ _ _ _) Try.underlying26 rfl (by kernel_rfl)) rfl ?_
    unfold GetQ
    rw [HE.out]
    exact ⟨_, _, rfl, Kd.R_nil _ _ _ _ _, Kd.R_nil _ _ _ _ _, below_set4 (below_alloc HB'.out _) _ _ _ _⟩
  | some p =>
    obtain ⟨x, r'⟩ := p
    rw [hr] at hc
    have HCC := Aside0.mk hc
    have HWF := Aside0.mk (hwf x r' hr)
    clear hc hwf
    cases hm : mayT 8 x with
    | false =>
      have HE := Aside0.mk (get_bad HBS.out hr hm)
      have HM := Aside0.mk hm
      clear hr hm
      go_wp2_with (first
        | (go_at_call 50; refine HCC.out.mono ?_; rintro e w' ⟨q2, q3, rfl, ho2, ho3, hl'⟩; obtain ⟨B2, e2, rfl, k2, r2⟩ := Kd.R_reads ho2; obtain ⟨B3, e3, rfl, k3, r3⟩ := Kd.R_reads ho3; have H0' := Aside0.mk ((H1.out.keep hl'.2.2 (by have := HG.out; omega)).alloc (.cells #[.int .i64 x.f0, .int .u64 x.f1, .slice B2 x.f2.length e2, .slice B3 x.f3.length e3] 26)); have HB' := Aside0.mk (below_alloc hl'.2.1 (.cells #[.int .i64 x.f0, .int .u64 x.f1, .slice B2 x.f2.length e2, .slice B3 x.f3.length e3] 26)); have HCK := Aside0.mk (check_c x B2 e2 B3 e3 (w'.alloc (.cells #[.int .i64 x.f0, .int .u64 x.f1, .slice B2 x.f2.length e2, .slice B3 x.f3.length e3] 26)) ⟨⟨k2, Kd.C_alloc r2 _⟩, k3, Kd.C_alloc r3 _⟩); clear hl' ho2 ho3 k2 k3 r2 r3)
        | (go_at_call 16; refine HCK.out.mono ?_; rw [HM.out, if_neg (by decide)]; rintro e w2 ⟨rfl, hb⟩; have H0'' := Aside0.mk (H0'.out.below hb); have HB'' := Aside0.mk (below_step HB'.out hb); have z0 := H0''.out.cell 0; have z1 := H0''.out.cell 1; have z2 := H0''.out.cell 2; have z3 := H0''.out.cell 3; have y0 := blk_frozen H0''.out 0; have y1 := blk_frozen H0''.out 1; have y2 := blk_frozen H0''.out 2; have y3 := blk_frozen H0''.out 3; simp only [List.getElem?_toArray, List.getElem?_cons_zero, List.getElem?_cons_succ] at z0 z1 z2 z3; clear hb))
      refine bodyPost_ret (results_ctt rfl _ _ w.heap.size 26 #[.int .i64 0, .int .u64 0, .slice none 0 0, .slice none 0 0] (0, 0) _ rfl (set4 H0''.out _ _ _ _) Try.underlying26 rfl (by kernel_rfl)) rfl ?_
      unfold GetQ
      rw [HE.out]
      exact ⟨_, _, rfl, Kd.R_nil _ _ _ _ _, Kd.R_nil _ _ _ _ _, below_set4 HB''.out _ _ _ _⟩
    | true =>
      have HE := Aside0.mk (get_ok HBS.out hr hm)
      have HM := Aside0.mk hm
      have HLE := Aside0.mk (show r'.length ≤ bs.length by have h := (read_back 8 bs x r' HU.out hr).1; rw [h, List.length_append]; omega)
      clear hr hm
      go_upto_region 6 with (first
        | (go_at_call 50; refine HCC.out.mono ?_; rintro e w' ⟨q2, q3, rfl, ho2, ho3, hl'⟩; obtain ⟨B2, e2, rfl, k2, r2⟩ := Kd.R_reads ho2; obtain ⟨B3, e3, rfl, k3, r3⟩ := Kd.R_reads ho3; have HT' := Aside0.mk (show Blk (w'.alloc (.cells #[.int .i64 x.f0, .int .u64 x.f1, .slice B2 x.f2.length e2, .slice B3 x.f3.length e3] 26)) w'.heap.size 26 #[.int .i64 x.f0, .int .u64 x.f1, .slice B2 x.f2.length e2, .slice B3 x.f3.length e3] from blk_new _ _); have HO2 := Aside0.mk (Kd.R_alloc ho2 (.cells #[.int .i64 x.f0, .int .u64 x.f1, .slice B2 x.f2.length e2, .slice B3 x.f3.length e3] 26)); have HO3 := Aside0.mk (Kd.R_alloc ho3 (.cells #[.int .i64 x.f0, .int .u64 x.f1, .slice B2 x.f2.length e2, .slice B3 x.f3.length e3] 26)); have HS' := Aside0.mk (hl'.1.below (below_alloc (Below.refl _ _) (.cells #[.int .i64 x.f0, .int .u64 x.f1, .slice B2 x.f2.length e2, .slice B3 x.f3.length e3] 26))); have H0' := Aside0.mk ((H1.out.keep hl'.2.2 (by have := HG.out; omega)).alloc (.cells #[.int .i64 x.f0, .int .u64 x.f1, .slice B2 x.f2.length e2, .slice B3 x.f3.length e3] 26)); have HB' := Aside0.mk (below_alloc hl'.2.1 (.cells #[.int .i64 x.f0, .int .u64 x.f1, .slice B2 x.f2.length e2, .slice B3 x.f3.length e3] 26)); have HCK := Aside0.mk (check_c x B2 e2 B3 e3 (w'.alloc (.cells #[.int .i64 x.f0, .int .u64 x.f1, .slice B2 x.f2.length e2, .slice B3 x.f3.length e3] 26)) ⟨⟨k2, Kd.C_alloc r2 _⟩, k3, Kd.C_alloc r3 _⟩); clear hl' ho2 ho3 k2 k3 r2 r3)
        | (go_at_call 16; refine HCK.out.mono ?_; rw [HM.out, if_pos rfl]; rintro e w2 ⟨rfl, hb⟩; have H0'' := Aside0.mk (H0'.out.below hb); have HT'' := Aside0.mk (HT'.out.below hb); have HO2' := Aside0.mk (Kd.R_below HO2.out hb); have HO3' := Aside0.mk (Kd.R_below HO3.out hb); have HS'' := Aside0.mk (HS'.out.below hb); have HB'' := Aside0.mk (below_step HB'.out hb); clear hb))
      have HOK := Aside0.mk (fun a b c f => (⟨Kd.R_drew (r_set4 (q := w.heap.size) HO2'.out (by have := HB1.out.size; have := HG.out; have := HS.out.blk.2.1; omega) a b c f), Kd.R_drew (r_set4 (q := w.heap.size) HO3'.out (by have := HB1.out.size; have := HG.out; have := HS.out.blk.2.1; omega) a b c f), below_drew1 (below_set4 HB''.out a b c f)⟩ : _ ∧ _ ∧ _))
      obtain ⟨p7, hp7⟩ : ∃ k, w'.heap.size = k := ⟨_, rfl⟩
      rw [hp7] at HT'' ⊢
      have HD := Aside0.mk (HS''.out.below (below_drew1 (Below.refl _ _)))
      have hwn : IntKind.i64.wrap (400 - leftO (some r')) = (bs.length : Int) - r'.length := by have := HN.out; have := HLE.out; have := HL.out; rw [show leftO (some r') = (r'.length : Int) from rfl, IntKind.wrap_i64]; omega
      clear HT' HO2 HO3 HS' H0' HB' HCK HCC H1 H0 HB HS hp7
      have z0 := H0''.out.cell 0; have z1 := H0''.out.cell 1; have z2 := H0''.out.cell 2; have z3 := H0''.out.cell 3; have y0 := blk_frozen H0''.out 0; have y1 := blk_frozen H0''.out 1; have y2 := blk_frozen H0''.out 2; have y3 := blk_frozen H0''.out 3; simp only [List.getElem?_toArray, List.getElem?_cons_zero, List.getElem?_cons_succ] at z0 z1 z2 z3; have Z0 := (H0''.out.below (below_drew1 (Below.refl _ _))).cell 0; have Z1 := (H0''.out.below (below_drew1 (Below.refl _ _))).cell 1; have Z2 := (H0''.out.below (below_drew1 (Below.refl _ _))).cell 2; have Z3 := (H0''.out.below (below_drew1 (Below.refl _ _))).cell 3; have Y0 := blk_frozen (H0''.out.below (below_drew1 (Below.refl _ _))) 0; have Y1 := blk_frozen (H0''.out.below (below_drew1 (Below.refl _ _))) 1; have Y2 := blk_frozen (H0''.out.below (below_drew1 (Below.refl _ _))) 2; have Y3 := blk_frozen (H0''.out.below (below_drew1 (Below.refl _ _))) 3; simp only [List.getElem?_toArray, List.getElem?_cons_zero, List.getElem?_cons_succ] at Z0 Z1 Z2 Z3; have x0 := HT''.out.cell 0; have x1 := HT''.out.cell 1; have x2 := HT''.out.cell 2; have x3 := HT''.out.cell 3; have v0 := blk_frozen HT''.out 0; have v1 := blk_frozen HT''.out 1; have v2 := blk_frozen HT''.out 2; have v3 := blk_frozen HT''.out 3; simp only [List.getElem?_toArray, List.getElem?_cons_zero, List.getElem?_cons_succ] at x0 x1 x2 x3; have X0 := (HT''.out.below (below_drew1 (Below.refl _ _))).cell 0; have X1 := (HT''.out.below (below_drew1 (Below.refl _ _))).cell 1; have X2 := (HT''.out.below (below_drew1 (Below.refl _ _))).cell 2; have X3 := (HT''.out.below (below_drew1 (Below.refl _ _))).cell 3; have V0 := blk_frozen (HT''.out.below (below_drew1 (Below.refl _ _))) 0; have V1 := blk_frozen (HT''.out.below (below_drew1 (Below.refl _ _))) 1; have V2 := blk_frozen (HT''.out.below (below_drew1 (Below.refl _ _))) 2; have V3 := blk_frozen (HT''.out.below (below_drew1 (Below.refl _ _))) 3; simp only [List.getElem?_toArray, List.getElem?_cons_zero, List.getElem?_cons_succ] at X0 X1 X2 X3
      go_region_law (go_simp; go_at_call 51; refine (leftO_ w _ g (some r') HD.out).mono ?_; rintro e w3 ⟨rfl, rfl⟩)
      all_goals
        go_wp2_with (fail)
        refine bodyPost_ret (results_ctt rfl _ _ w.heap.size 26 #[.int .i64 x.f0, .int .u64 x.f1, .slice B2 x.f2.length e2, .slice B3 x.f3.length e3] (0, 0) _ rfl ((set4 H0''.out _ _ _ _).below (below_drew1 (Below.refl _ _))) Try.underlying26 rfl (by kernel_rfl)) rfl ?_
        unfold GetQ
        rw [HE.out, ← hwn]
        exact ⟨_, _, rfl, (HOK.out _ _ _ _).1, (HOK.out _ _ _ _).2.1, (HOK.out _ _ _ _).2.2⟩
theorem get_c (w : World) (A : Option Addr) (c : Nat) (b : List Int) (hr : Rb w A b) (hc : b.length ≤ c) (hl : b.length < 140737488355328) (hu : U8 b) :
    Calls Try.prog 18 #[.slice A b.length c] w (GetQ w b) := by
  by_cases h : b.length ≤ 400
  · exact get_lo w A c b hr hc hl hu h _ rfl
  · exact get_hi w A c b hr hc hl hu (by omega) _ rfl
end Go.Proofs.Ytgohmganimamcaa.Term
/- term.Put, term.Get, term.Same in the printed functions' form. -/
namespace Go.Proofs.Ytgohmganimamcaa.Term
open Go.RowKit Go.Proofs.Ytgohmganimamcaa.TlvPlain Go.Proofs.Ytgohmganimamcaa.RdPlain Go.Proofs.Ytgohmganimamcaa.PZ
def u8B (l : List Int) : Bool := l.all (fun x => decide (0 ≤ x) && decide (x ≤ 255))
theorem u8B_iff {l : List Int} : u8B l = true ↔ U8 l := by
  unfold u8B U8
  simp only [List.all_eq_true, Bool.and_eq_true, decide_eq_true_eq]
mutual
def wfB : ST → Bool
  | ⟨_, n, d, ks⟩ => (decide (0 ≤ n) && decide (n ≤ 18446744073709551615)) && (u8B d && wfBs ks)
def wfBs : List ST → Bool
  | [] => true
  | k :: ks => wfB k && wfBs ks
end
mutual
theorem wfB_iff : ∀ x : ST, wfB x = true ↔ wfT x
  | ⟨_, n, d, ks⟩ => by
    rw [wfB, wfT]
    simp only [Bool.and_eq_true, decide_eq_true_eq]
    rw [u8B_iff, wfBs_iff ks]
theorem wfBs_iff : ∀ l : List ST, wfBs l = true ↔ wfTs l
  | [] => by rw [wfBs, wfTs]; simp
  | k :: ks => by
    rw [wfBs, wfTs, Bool.and_eq_true, wfB_iff k, wfBs_iff ks]
end
mutual
def eqT : ST → ST → Bool
  | ⟨a, b, c, ks⟩, ⟨a2, b2, c2, ks2⟩ => (decide (a = a2) && decide (b = b2)) && (decide (c = c2) && eqTs ks ks2)
def eqTs : List ST → List ST → Bool
  | [], [] => true
  | x :: xs, y :: ys => eqT x y && eqTs xs ys
  | _, _ => false
end
mutual
theorem eqT_iff : ∀ x y : ST, eqT x y = true ↔ x = y
  | ⟨a, b, c, ks⟩, ⟨a2, b2, c2, ks2⟩ => by
    rw [eqT]
    simp only [Bool.and_eq_true, decide_eq_true_eq, S26.mk.injEq]
    rw [eqTs_iff ks ks2, and_assoc]
theorem eqTs_iff : ∀ l m : List ST, eqTs l m = true ↔ l = m
  | [], [] => by rw [eqTs]; simp
  | [], y :: ys => by rw [eqTs] <;> simp
  | x :: xs, [] => by rw [eqTs] <;> simp
  | x :: xs, y :: ys => by
    rw [eqTs, Bool.and_eq_true, eqT_iff x y, eqTs_iff xs ys]
    simp
end
theorem eqB_eqT (x y : ST) : eqB x y = eqT x y := by
  rw [Bool.eq_iff_iff, eqB_iff, eqT_iff]
end Go.Proofs.Ytgohmganimamcaa.Term
namespace Go.Proofs.Ytgohmganimamcaa.PZ
set_option linter.unusedVariables false
open Go.RowKit Go.Proofs.YtgohmganimamcaaW.PrintWords Go.Proofs.Ytgohmganimamcaa.Term
def term_Same.f (a0_0 : Int) (a0_1 : Int) (l0_2 : List Int) (l0_3 : List (S26)) (a1_0 : Int) (a1_1 : Int) (l1_2 : List Int) (l1_3 : List (S26)) : Option Bool := if (wfB ⟨a0_0, a0_1, l0_2, l0_3⟩ && wfB ⟨a1_0, a1_1, l1_2, l1_3⟩) = true then some (eqT ⟨a0_0, a0_1, l0_2, l0_3⟩ ⟨a1_0, a1_1, l1_2, l1_3⟩) else none
theorem term_Same.calls (a0_0 : Int) (a0_1 : Int) (A0_2 : Option Addr) (c0_2 : Nat) (l0_2 : List Int) (A0_3 : Option Addr) (c0_3 : Nat) (l0_3 : List (S26)) (a1_0 : Int) (a1_1 : Int) (A1_2 : Option Addr) (c1_2 : Nat) (l1_2 : List Int) (A1_3 : Option Addr) (c1_3 : Nat) (l1_3 : List (S26)) (r : Bool) (w : World) (hr0_2 : Kd.C (Kd.int .u8) w A0_2 l0_2.length l0_2) (hc0_2 : l0_2.length ≤ c0_2) (hr0_3 : Kd.C k26 w A0_3 l0_3.length l0_3) (hc0_3 : l0_3.length ≤ c0_3) (hr1_2 : Kd.C (Kd.int .u8) w A1_2 l1_2.length l1_2) (hc1_2 : l1_2.length ≤ c1_2) (hr1_3 : Kd.C k26 w A1_3 l1_3.length l1_3) (hc1_3 : l1_3.length ≤ c1_3) (h : term_Same.f a0_0 a0_1 l0_2 l0_3 a1_0 a1_1 l1_2 l1_3 = some r) :
    Calls Try.prog 22 #[.agg #[.int .i64 a0_0, .int .u64 a0_1, .slice A0_2 l0_2.length c0_2, .slice A0_3 l0_3.length c0_3], .agg #[.int .i64 a1_0, .int .u64 a1_1, .slice A1_2 l1_2.length c1_2, .slice A1_3 l1_3.length c1_3]] w fun e w' => e = .returned (.bool r) ∧ Below w.heap.size w w' := by
  unfold term_Same.f at h
  split at h
  · next hc =>
    simp only [Bool.and_eq_true] at hc
    obtain rfl := Option.some.inj h
    rw [← eqB_eqT]
    exact same_n _ ⟨a0_0, a0_1, l0_2, l0_3⟩ ⟨a1_0, a1_1, l1_2, l1_3⟩ (Nat.lt_succ_self _) ((wfB_iff _).1 hc.1) ((wfB_iff _).1 hc.2) A0_2 c0_2 A0_3 c0_3 A1_2 c1_2 A1_3 c1_3 w ⟨⟨hc0_2, hr0_2⟩, hc0_3, hr0_3⟩ ⟨⟨hc1_2, hr1_2⟩, hc1_3, hr1_3⟩
  · cases h
end Go.Proofs.Ytgohmganimamcaa.PZ
-- printed for this claim by a program (pall.sh)
-- mended by fixpz.py
namespace Go.Proofs.Ytgohmganimamcaa.PZ
open Go.RowKit Go.Proofs.YtgohmganimamcaaW.PrintWords Go.Proofs.YtgohmganimamcaaW.PrintLast Go.Proofs.YtgohmganimamcaaW.PrintMore
attribute [local go_sem] max2_int min2_int max_two min_two max_three min_three max_four min_four   -- for this text's walks alone
set_option linter.unusedVariables false
set_option linter.unusedSimpArgs false

/-! ### term_Data: function 38 -/
def term_Data.f (l0 : List Int) : Option (Int × Int × List Int × (List (S26))) := (bytes_Clone.f l0).bind fun t102 => (some (3, 0, t102, ([] : List (S26))))
set_option maxHeartbeats 8000000 in
set_option maxRecDepth 100000 in
theorem term_Data.calls (A0 : Option Addr) (c0 : Nat) (l0 : List Int) (r1 : Int) (r2 : Int) (r3 : List Int) (r4 : List (S26)) (w : World) (hr0 : Kd.C (Kd.int .u8) w A0 l0.length l0) (hc0 : l0.length ≤ c0) (h : term_Data.f l0 = some (r1, r2, r3, r4)) :
  Calls Try.prog 38 #[.slice A0 l0.length c0] w fun e w' => ∃ v2_ v3_ : Value, e = .returned (.agg #[.int .i64 r1, .int .u64 r2, v2_, v3_]) ∧ Kd.R (Kd.int .u8) 5 w' w.heap.size (fun _ => True) v2_ r3 ∧ Kd.R k26 26 w' w.heap.size (fun k_ => some k_ ≠ (v2_ : Value).ownBlock) v3_ r4 ∧ Below w.heap.size w w' := by
 have hu26 := Try.underlying26
 have HR0 := Aside0.mk hr0
 have HC0 := Aside0.mk hc0
 clear hr0 hc0
 have HB := Aside0.mk (Below.refl w.heap.size w)
 have H : ((bytes_Clone.f l0).bind fun t102 => (some (3, 0, t102, ([] : List (S26))))) = some (r1, r2, r3, r4) := h
 clear h
 replace H := Option.bind_eq_some_iff.mp H
 obtain ⟨t102, A20, H⟩ := H
 replace H : (some (3, 0, t102, ([] : List (S26)))) = some (r1, r2, r3, r4) := H
 have A2 := Aside0.mk A20
 clear A20
 simp only [Option.some.injEq, Prod.mk.injEq] at H
 obtain ⟨rfl, rfl, rfl, rfl⟩ := H
 go_enter Try.func38, Try.ntmps38
 go_wp2_with (first | ((with_reducible refine gate_dst (N := 2) rfl ?_); refine box_event ?hg (N := 2) ?hd (cs := #[.int .i64 0, .int .u64 0, .slice none 0 0, .slice none 0 0]) (t := 26) ?hr ?_; (case hd => rfl); (case hg => rfl); (case hr => first | (go_simp; done) | (go_simp; rfl)); intro gb101 hg w3 hbox hb; have n0_ := Aside0.mk (below_step (by repeat (first | (with_reducible first | exact HB.out | apply below_alloc | apply pw_below_drewN | apply below_drew1) | exact HB.out)) hb); have n1_ := Aside0.mk (hbox); have n2_ := Aside0.mk ((by rw [hg]; exact (below_size (by repeat (first | (with_reducible first | exact HB.out | apply below_alloc | apply pw_below_drewN | apply below_drew1) | exact HB.out))) : w.heap.size ≤ gb101)); have n3_ := Aside0.mk ((by rw [hg]; exact (below_size (by repeat (first | (with_reducible first | exact HB.out | apply below_alloc | apply pw_below_drewN | apply below_drew1) | exact HB.out))) : w.heap.size ≤ gb101)); clear HB; have HB := n0_; have BK101 := n1_; have GW101 := n2_; have GE101 := n3_; clear n0_ n1_ n2_ n3_; clear hb hbox hg) | ((with_reducible refine gate_callee (f := 63) rfl ?_); refine goesL_ (some 4) rfl rfl Try.func63 (by kernel_rfl) rfl #[.slice A0 l0.length c0] rfl (by (try simp only [List.map_toArray, List.map_cons, List.map_nil]); first | done | rfl | (simp only [List.length_drop, List.length_take]; rfl)) ?_; (with_reducible refine (bytes_Clone.calls _ _ l0 t102 _ ?side1 ?side2 A2.out).mono ?_); (case side1 => repeat (first | exact (Kd.C_below HR0.out HB.out) | (with_reducible refine Kd.C_alloc ?_ _) | (with_reducible refine Kd.C_drewN ?_ _) | (with_reducible refine Kd.C_drew ?_))); (case side2 => exact HC0.out); rintro e w4 ⟨v103, rfl, ho0, hb⟩; refine ⟨_, rfl, ?_⟩; have n0_ := Aside0.mk (Kd.R_lower ho0 (below_size (by repeat (first | (with_reducible first | exact HB.out | apply below_alloc | apply pw_below_drewN | apply below_drew1 | refine below_set ?_ GE101.out) | exact HB.out)))); have n1_ := Aside0.mk (blk_below (g := gb101) (o := .cells #[.int .i64 0, .int .u64 0, .slice none 0 0, .slice none 0 0] 26 (0, 0)) (by (with_reducible repeat (first | refine blk_drewN ?_ _ | refine blk_drew ?_ | refine blk_alloc ?_ _)); exact BK101.out) hb); have n2_ := Aside0.mk (below_step (by repeat (first | (with_reducible first | exact HB.out | apply below_alloc | apply pw_below_drewN | apply below_drew1 | refine below_set ?_ GE101.out) | exact HB.out)) hb); clear BK101; clear HB; have HO104 := n0_; have BK101 := n1_; have HB := n2_; clear n0_ n1_ n2_; (try clear hb); (try clear hb2); (try clear hk); (try clear hi); (try clear ho0); obtain ⟨Ao5, co5, eo5⟩ := Kd.R_slice HO104.out; subst eo5; have hcz6_0 : w4.cell? ⟨gb101, 0, none⟩ = some (.int .i64 0) := (blk_cell BK101.out 0).trans rfl; have hcz6_1 : w4.cell? ⟨gb101, 1, none⟩ = some (.int .u64 0) := (blk_cell BK101.out 1).trans rfl; have hcz6_2 : w4.cell? ⟨gb101, 2, none⟩ = some (.slice none 0 0) := (blk_cell BK101.out 2).trans rfl; have hcz6_3 : w4.cell? ⟨gb101, 3, none⟩ = some (.slice none 0 0) := (blk_cell BK101.out 3).trans rfl; have hfz6_0 := blk_frozen BK101.out 0; have hfz6_1 := blk_frozen BK101.out 1; have hfz6_2 := blk_frozen BK101.out 2; have hfz6_3 := blk_frozen BK101.out 3))
 refine bodyPost_ret (results_cell_row rfl _ _ gb101 26 #[.int .i64 3, .int .u64 0, .slice Ao5 t102.length co5, .slice none 0 0] (0, 0) _ rfl (by (with_reducible repeat (first | refine blk_drewN ?_ _ | refine blk_drew ?_ | refine blk_alloc ?_ _)); refine blk_put (cs := #[.int .i64 3, .int .u64 0, .slice Ao5 t102.length co5, .slice none 0 0]) ?_ 3 _ rfl; (with_reducible repeat (first | refine blk_drewN ?_ _ | refine blk_drew ?_ | refine blk_alloc ?_ _)); refine blk_put (cs := #[.int .i64 3, .int .u64 0, .slice none 0 0, .slice none 0 0]) ?_ 2 _ rfl; (with_reducible repeat (first | refine blk_drewN ?_ _ | refine blk_drew ?_ | refine blk_alloc ?_ _)); refine blk_put (cs := #[.int .i64 3, .int .u64 0, .slice none 0 0, .slice none 0 0]) ?_ 1 _ rfl; (with_reducible repeat (first | refine blk_drewN ?_ _ | refine blk_drew ?_ | refine blk_alloc ?_ _)); refine blk_put (cs := #[.int .i64 0, .int .u64 0, .slice none 0 0, .slice none 0 0]) ?_ 0 _ rfl; (with_reducible repeat (first | refine blk_drewN ?_ _ | refine blk_drew ?_ | refine blk_alloc ?_ _)); exact BK101.out) Try.underlying26 rfl (by kernel_rfl)) rfl ?_
 exact ⟨_, _, by first | rfl | (simp [errW_none, errW_some] <;> rfl) | (simp [*, errW_none, errW_some] <;> rfl), by (with_reducible repeat (first | apply Kd.R_alloc | apply Kd.R_drewN | apply Kd.R_drew)); exact Kd.R_mono (Kd.R_far (p := ⟨gb101, 3, none⟩) (Kd.R_far (p := ⟨gb101, 2, none⟩) (Kd.R_far (p := ⟨gb101, 1, none⟩) (Kd.R_far (p := ⟨gb101, 0, none⟩) (Kd.R_types HO104.out BK101.out (by decide)) (fun _ hk => hk.2) (.int .i64 3)) (fun _ hk => hk.2) (.int .u64 0)) (fun _ hk => hk.2) (.slice Ao5 t102.length co5)) (fun _ hk => hk.2) (.slice none 0 0)) (fun _ hk => trivial), by first | exact Kd.R_nil _ _ _ _ _ | exact Kd.N_nil _ _ _ _ _ | exact Kd.V_nil _ _ _ _ _ | exact Kd.Q_nil _ _ _ _ _ | exact Kd.S_nil _ _ _ _ _, by repeat (first | (with_reducible first | exact HB.out | apply below_alloc | apply pw_below_drewN | apply below_drew1 | refine below_set ?_ GE101.out) | exact HB.out)⟩

end Go.Proofs.Ytgohmganimamcaa.PZ
-- printed for this claim by a program (pall.sh)
-- mended by fixpz.py
namespace Go.Proofs.Ytgohmganimamcaa.PZ
open Go.RowKit Go.Proofs.YtgohmganimamcaaW.PrintWords Go.Proofs.YtgohmganimamcaaW.PrintLast Go.Proofs.YtgohmganimamcaaW.PrintMore
attribute [local go_sem] max2_int min2_int max_two min_two max_three min_three max_four min_four   -- for this text's walks alone
set_option linter.unusedVariables false
set_option linter.unusedSimpArgs false

/-! ### term_Key: function 37 -/
def term_Key.f (a0 : Int) : Option (Int × Int × List Int × (List (S26))) := some (2, a0, ([] : List Int), ([] : List (S26)))
set_option maxHeartbeats 8000000 in
set_option maxRecDepth 100000 in
theorem term_Key.calls (a0 : Int) (r1 : Int) (r2 : Int) (r3 : List Int) (r4 : List (S26)) (w : World) (h : term_Key.f a0 = some (r1, r2, r3, r4)) :
  Calls Try.prog 37 #[.int .u64 a0] w fun e w' => ∃ v2_ v3_ : Value, e = .returned (.agg #[.int .i64 r1, .int .u64 r2, v2_, v3_]) ∧ Kd.R (Kd.int .u8) 5 w' w.heap.size (fun _ => True) v2_ r3 ∧ Kd.R k26 26 w' w.heap.size (fun k_ => some k_ ≠ (v2_ : Value).ownBlock) v3_ r4 ∧ Below w.heap.size w w' := by
 have hu26 := Try.underlying26
 have HB := Aside0.mk (Below.refl w.heap.size w)
 have H : (some (2, a0, ([] : List Int), ([] : List (S26)))) = some (r1, r2, r3, r4) := h
 clear h
 simp only [Option.some.injEq, Prod.mk.injEq] at H
 obtain ⟨rfl, rfl, rfl, rfl⟩ := H
 go_enter Try.func37, Try.ntmps37
 go_wp2_with (first | ((with_reducible refine gate_dst (N := 2) rfl ?_); refine box_event ?hg (N := 2) ?hd (cs := #[.int .i64 0, .int .u64 0, .slice none 0 0, .slice none 0 0]) (t := 26) ?hr ?_; (case hd => rfl); (case hg => rfl); (case hr => first | (go_simp; done) | (go_simp; rfl)); intro gb101 hg w2 hbox hb; have n0_ := Aside0.mk (below_step (by repeat (first | (with_reducible first | exact HB.out | apply below_alloc | apply pw_below_drewN | apply below_drew1) | exact HB.out)) hb); have n1_ := Aside0.mk (hbox); have n2_ := Aside0.mk ((by rw [hg]; exact (below_size (by repeat (first | (with_reducible first | exact HB.out | apply below_alloc | apply pw_below_drewN | apply below_drew1) | exact HB.out))) : w.heap.size ≤ gb101)); have n3_ := Aside0.mk ((by rw [hg]; exact (below_size (by repeat (first | (with_reducible first | exact HB.out | apply below_alloc | apply pw_below_drewN | apply below_drew1) | exact HB.out))) : w.heap.size ≤ gb101)); clear HB; have HB := n0_; have BK101 := n1_; have GW101 := n2_; have GE101 := n3_; clear n0_ n1_ n2_ n3_; clear hb hbox hg; have hcz3_0 : w2.cell? ⟨gb101, 0, none⟩ = some (.int .i64 0) := (blk_cell BK101.out 0).trans rfl; have hcz3_1 : w2.cell? ⟨gb101, 1, none⟩ = some (.int .u64 0) := (blk_cell BK101.out 1).trans rfl; have hcz3_2 : w2.cell? ⟨gb101, 2, none⟩ = some (.slice none 0 0) := (blk_cell BK101.out 2).trans rfl; have hcz3_3 : w2.cell? ⟨gb101, 3, none⟩ = some (.slice none 0 0) := (blk_cell BK101.out 3).trans rfl; have hfz3_0 := blk_frozen BK101.out 0; have hfz3_1 := blk_frozen BK101.out 1; have hfz3_2 := blk_frozen BK101.out 2; have hfz3_3 := blk_frozen BK101.out 3))
 refine bodyPost_ret (results_cell_row rfl _ _ gb101 26 #[.int .i64 2, .int .u64 a0, .slice none 0 0, .slice none 0 0] (0, 0) _ rfl (by (with_reducible repeat (first | refine blk_drewN ?_ _ | refine blk_drew ?_ | refine blk_alloc ?_ _)); refine blk_put (cs := #[.int .i64 2, .int .u64 a0, .slice none 0 0, .slice none 0 0]) ?_ 3 _ rfl; (with_reducible repeat (first | refine blk_drewN ?_ _ | refine blk_drew ?_ | refine blk_alloc ?_ _)); refine blk_put (cs := #[.int .i64 2, .int .u64 a0, .slice none 0 0, .slice none 0 0]) ?_ 2 _ rfl; (with_reducible repeat (first | refine blk_drewN ?_ _ | refine blk_drew ?_ | refine blk_alloc ?_ _)); refine blk_put (cs := #[.int .i64 2, .int .u64 0, .slice none 0 0, .slice none 0 0]) ?_ 1 _ rfl; (with_reducible repeat (first | refine blk_drewN ?_ _ | refine blk_drew ?_ | refine blk_alloc ?_ _)); refine blk_put (cs := #[.int .i64 0, .int .u64 0, .slice none 0 0, .slice none 0 0]) ?_ 0 _ rfl; (with_reducible repeat (first | refine blk_drewN ?_ _ | refine blk_drew ?_ | refine blk_alloc ?_ _)); exact BK101.out) Try.underlying26 rfl (by kernel_rfl)) rfl ?_
 exact ⟨_, _, by first | rfl | (simp [errW_none, errW_some] <;> rfl) | (simp [*, errW_none, errW_some] <;> rfl), by first | exact Kd.R_nil _ _ _ _ _ | exact Kd.N_nil _ _ _ _ _ | exact Kd.V_nil _ _ _ _ _ | exact Kd.Q_nil _ _ _ _ _ | exact Kd.S_nil _ _ _ _ _, by first | exact Kd.R_nil _ _ _ _ _ | exact Kd.N_nil _ _ _ _ _ | exact Kd.V_nil _ _ _ _ _ | exact Kd.Q_nil _ _ _ _ _ | exact Kd.S_nil _ _ _ _ _, by repeat (first | (with_reducible first | exact HB.out | apply below_alloc | apply pw_below_drewN | apply below_drew1 | refine below_set ?_ GE101.out) | exact HB.out)⟩

end Go.Proofs.Ytgohmganimamcaa.PZ
-- printed for this claim by a program (pall.sh)
-- mended by fixpz.py
namespace Go.Proofs.Ytgohmganimamcaa.PZ
open Go.RowKit Go.Proofs.YtgohmganimamcaaW.PrintWords Go.Proofs.YtgohmganimamcaaW.PrintLast Go.Proofs.YtgohmganimamcaaW.PrintMore
attribute [local go_sem] max2_int min2_int max_two min_two max_three min_three max_four min_four   -- for this text's walks alone
set_option linter.unusedVariables false
set_option linter.unusedSimpArgs false

/-! ### term_Enc: function 34 -/
def term_Enc.f (a0 : Int) (a1_0 : Int) (a1_1 : Int) (l1_2 : List Int) (l1_3 : List (S26)) (a2_0 : Int) (a2_1 : Int) (l2_2 : List Int) (l2_3 : List (S26)) : Option (Int × Int × List Int × (List (S26))) := some (5, a0, ([] : List Int), (([(⟨a1_0, a1_1, l1_2, l1_3⟩ : S26), (⟨a2_0, a2_1, l2_2, l2_3⟩ : S26)] : List (S26))))
set_option maxHeartbeats 8000000 in
set_option maxRecDepth 100000 in
theorem term_Enc.calls (a0 : Int) (a1_0 : Int) (a1_1 : Int) (P1_2_ : Nat → Prop) (A1_2 : Option Addr) (c1_2 : Nat) (l1_2 : List Int) (P1_3_ : Nat → Prop) (A1_3 : Option Addr) (c1_3 : Nat) (l1_3 : List (S26)) (a2_0 : Int) (a2_1 : Int) (P2_2_ : Nat → Prop) (A2_2 : Option Addr) (c2_2 : Nat) (l2_2 : List Int) (P2_3_ : Nat → Prop) (A2_3 : Option Addr) (c2_3 : Nat) (l2_3 : List (S26)) (r1 : Int) (r2 : Int) (r3 : List Int) (r4 : List (S26)) (w : World) (hs1_2 : Kd.V (Kd.int .u8) 5 w w.heap.size (fun k_ => P1_2_ k_) (.slice A1_2 l1_2.length c1_2) l1_2) (hs1_3 : Kd.V k26 26 w w.heap.size (fun k_ => P1_3_ k_) (.slice A1_3 l1_3.length c1_3) l1_3) (hs2_2 : Kd.V (Kd.int .u8) 5 w w.heap.size (fun k_ => P2_2_ k_) (.slice A2_2 l2_2.length c2_2) l2_2) (hs2_3 : Kd.V k26 26 w w.heap.size (fun k_ => P2_3_ k_) (.slice A2_3 l2_3.length c2_3) l2_3) (h : term_Enc.f a0 a1_0 a1_1 l1_2 l1_3 a2_0 a2_1 l2_2 l2_3 = some (r1, r2, r3, r4)) :
  Calls Try.prog 34 #[.int .u64 a0, .agg #[.int .i64 a1_0, .int .u64 a1_1, .slice A1_2 l1_2.length c1_2, .slice A1_3 l1_3.length c1_3], .agg #[.int .i64 a2_0, .int .u64 a2_1, .slice A2_2 l2_2.length c2_2, .slice A2_3 l2_3.length c2_3]] w fun e w' => ∃ v2_ v3_ : Value, e = .returned (.agg #[.int .i64 r1, .int .u64 r2, v2_, v3_]) ∧ Kd.R (Kd.int .u8) 5 w' w.heap.size (fun k_ => (w.heap.size ≤ k_)) v2_ r3 ∧ Kd.N k26 26 w' w.heap.size (fun k_ => ((P1_2_ k_ ∨ P1_3_ k_ ∨ P2_2_ k_ ∨ P2_3_ k_) ∨ w.heap.size ≤ k_) ∧ some k_ ≠ (v2_ : Value).ownBlock) v3_ r4 ∧ Below w.heap.size w w' := by
 have hu26 := Try.underlying26
 have HO1_2 := Aside0.mk (show Kd.V (Kd.int .u8) 5 w w.heap.size (fun k_ => ((P1_2_ k_ ∨ P1_3_ k_ ∨ P2_2_ k_ ∨ P2_3_ k_) ∨ w.heap.size ≤ k_)) (.slice A1_2 l1_2.length c1_2) l1_2 from Kd.V_mono hs1_2 (fun k_ hk => .inl (.inl hk)))
 have HO1_3 := Aside0.mk (show Kd.V k26 26 w w.heap.size (fun k_ => ((P1_2_ k_ ∨ P1_3_ k_ ∨ P2_2_ k_ ∨ P2_3_ k_) ∨ w.heap.size ≤ k_)) (.slice A1_3 l1_3.length c1_3) l1_3 from Kd.V_mono hs1_3 (fun k_ hk => .inl (.inr (.inl hk))))
 have HO2_2 := Aside0.mk (show Kd.V (Kd.int .u8) 5 w w.heap.size (fun k_ => ((P1_2_ k_ ∨ P1_3_ k_ ∨ P2_2_ k_ ∨ P2_3_ k_) ∨ w.heap.size ≤ k_)) (.slice A2_2 l2_2.length c2_2) l2_2 from Kd.V_mono hs2_2 (fun k_ hk => .inl (.inr (.inr (.inl hk)))))
 have HO2_3 := Aside0.mk (show Kd.V k26 26 w w.heap.size (fun k_ => ((P1_2_ k_ ∨ P1_3_ k_ ∨ P2_2_ k_ ∨ P2_3_ k_) ∨ w.heap.size ≤ k_)) (.slice A2_3 l2_3.length c2_3) l2_3 from Kd.V_mono hs2_3 (fun k_ hk => .inl (.inr (.inr (.inr hk)))))
 have HB := Aside0.mk (Below.refl w.heap.size w)
 have H : (some (5, a0, ([] : List Int), (([(⟨a1_0, a1_1, l1_2, l1_3⟩ : S26), (⟨a2_0, a2_1, l2_2, l2_3⟩ : S26)] : List (S26))))) = some (r1, r2, r3, r4) := h
 clear h
 obtain ⟨y104, hy104⟩ : ∃ y_ : List (S26), y_ = (([(⟨a1_0, a1_1, l1_2, l1_3⟩ : S26), (⟨a2_0, a2_1, l2_2, l2_3⟩ : S26)] : List (S26))) := ⟨_, rfl⟩
 replace H : (some (5, a0, ([] : List Int), y104)) = some (r1, r2, r3, r4) := by first | (rw [hy104]; with_reducible exact H) | (have H2_ := (Option.bind_some _ _).symm.trans H; rw [hy104]; with_reducible exact H2_) | (have H2_ := (Option.bind_some _ _).symm.trans H; with_reducible exact H2_) | with_reducible exact H | (rw [hy104]; exact H) | exact H
 have Ny104 := Aside0.mk hy104
 clear hy104
 simp only [Option.some.injEq, Prod.mk.injEq] at H
 obtain ⟨rfl, rfl, rfl, rfl⟩ := H
 go_enter Try.func34, Try.ntmps34
 go_wp2_with (first | ((with_reducible refine gate_dst (N := 4) rfl ?_); refine box_event ?hg (N := 4) ?hd (cs := #[.int .i64 a1_0, .int .u64 a1_1, .slice A1_2 l1_2.length c1_2, .slice A1_3 l1_3.length c1_3]) (t := 26) ?hr ?_; (case hd => rfl); (case hg => rfl); (case hr => first | (go_simp; done) | (go_simp; rfl)); intro gb101 hg w4 hbox hb; have n0_ := Aside0.mk (Kd.V_below (Kd.V_elderB (by (with_reducible repeat (first | apply Kd.V_alloc | apply Kd.V_drewN | apply Kd.V_drew)); exact HO1_2.out) gb101 (Nat.le_of_eq hg.symm)) hb); have n1_ := Aside0.mk (Kd.V_below (Kd.V_elderB (by (with_reducible repeat (first | apply Kd.V_alloc | apply Kd.V_drewN | apply Kd.V_drew)); exact HO1_3.out) gb101 (Nat.le_of_eq hg.symm)) hb); have n2_ := Aside0.mk (Kd.V_below (Kd.V_elderB (by (with_reducible repeat (first | apply Kd.V_alloc | apply Kd.V_drewN | apply Kd.V_drew)); exact HO2_2.out) gb101 (Nat.le_of_eq hg.symm)) hb); have n3_ := Aside0.mk (Kd.V_below (Kd.V_elderB (by (with_reducible repeat (first | apply Kd.V_alloc | apply Kd.V_drewN | apply Kd.V_drew)); exact HO2_3.out) gb101 (Nat.le_of_eq hg.symm)) hb); have n4_ := Aside0.mk (below_step (by repeat (first | (with_reducible first | exact HB.out | apply below_alloc | apply pw_below_drewN | apply below_drew1) | exact HB.out)) hb); have n5_ := Aside0.mk (hbox); have n6_ := Aside0.mk ((by rw [hg]; exact (below_size (by repeat (first | (with_reducible first | exact HB.out | apply below_alloc | apply pw_below_drewN | apply below_drew1) | exact HB.out))) : w.heap.size ≤ gb101)); have n7_ := Aside0.mk ((by rw [hg]; exact (below_size (by repeat (first | (with_reducible first | exact HB.out | apply below_alloc | apply pw_below_drewN | apply below_drew1) | exact HB.out))) : w.heap.size ≤ gb101)); clear HO1_2; clear HO1_3; clear HO2_2; clear HO2_3; clear HB; have HO1_2 := n0_; have HO1_3 := n1_; have HO2_2 := n2_; have HO2_3 := n3_; have HB := n4_; have BK101 := n5_; have GW101 := n6_; have GE101 := n7_; clear n0_ n1_ n2_ n3_ n4_ n5_ n6_ n7_; clear hb hbox hg) | ((with_reducible refine gate_dst (N := 5) rfl ?_); refine box_event ?hg (N := 5) ?hd (cs := #[.int .i64 a2_0, .int .u64 a2_1, .slice A2_2 l2_2.length c2_2, .slice A2_3 l2_3.length c2_3]) (t := 26) ?hr ?_; (case hd => rfl); (case hg => rfl); (case hr => first | (go_simp; done) | (go_simp; rfl)); intro gb102 hg w5 hbox hb; have n0_ := Aside0.mk (Kd.V_below (Kd.V_elderB (by (with_reducible repeat (first | apply Kd.V_alloc | apply Kd.V_drewN | apply Kd.V_drew)); exact HO1_2.out) gb102 (Nat.le_of_eq hg.symm)) hb); have n1_ := Aside0.mk (Kd.V_below (Kd.V_elderB (by (with_reducible repeat (first | apply Kd.V_alloc | apply Kd.V_drewN | apply Kd.V_drew)); exact HO1_3.out) gb102 (Nat.le_of_eq hg.symm)) hb); have n2_ := Aside0.mk (Kd.V_below (Kd.V_elderB (by (with_reducible repeat (first | apply Kd.V_alloc | apply Kd.V_drewN | apply Kd.V_drew)); exact HO2_2.out) gb102 (Nat.le_of_eq hg.symm)) hb); have n3_ := Aside0.mk (Kd.V_below (Kd.V_elderB (by (with_reducible repeat (first | apply Kd.V_alloc | apply Kd.V_drewN | apply Kd.V_drew)); exact HO2_3.out) gb102 (Nat.le_of_eq hg.symm)) hb); have n4_ := Aside0.mk (blk_below (g := gb101) (o := .cells #[.int .i64 a1_0, .int .u64 a1_1, .slice A1_2 l1_2.length c1_2, .slice A1_3 l1_3.length c1_3] 26 (0, 0)) (by (with_reducible repeat (first | refine blk_drewN ?_ _ | refine blk_drew ?_ | refine blk_alloc ?_ _)); exact BK101.out) hb); have n5_ := Aside0.mk (below_step (by repeat (first | (with_reducible first | exact HB.out | apply below_alloc | apply pw_below_drewN | apply below_drew1 | refine below_set ?_ GE101.out) | exact HB.out)) hb); have n6_ := Aside0.mk (hbox); have n7_ := Aside0.mk ((by rw [hg]; exact (below_size (by repeat (first | (with_reducible first | exact HB.out | apply below_alloc | apply pw_below_drewN | apply below_drew1 | refine below_set ?_ GE101.out) | exact HB.out))) : w.heap.size ≤ gb102)); have n8_ := Aside0.mk ((by rw [hg]; exact (below_size (by repeat (first | (with_reducible first | exact HB.out | apply below_alloc | apply pw_below_drewN | apply below_drew1 | refine below_set ?_ GE101.out) | exact HB.out))) : w.heap.size ≤ gb102)); have n9_ := Aside0.mk ((by rw [hg]; exact Nat.ne_of_lt (blk_lt (g := gb101) (o := .cells #[.int .i64 a1_0, .int .u64 a1_1, .slice A1_2 l1_2.length c1_2, .slice A1_3 l1_3.length c1_3] 26 (0, 0)) (by (with_reducible repeat (first | refine blk_drewN ?_ _ | refine blk_drew ?_ | refine blk_alloc ?_ _)); exact BK101.out)) : gb101 ≠ gb102)); have n10_ := Aside0.mk ((by rw [hg]; exact Nat.ne_of_gt (blk_lt (g := gb101) (o := .cells #[.int .i64 a1_0, .int .u64 a1_1, .slice A1_2 l1_2.length c1_2, .slice A1_3 l1_3.length c1_3] 26 (0, 0)) (by (with_reducible repeat (first | refine blk_drewN ?_ _ | refine blk_drew ?_ | refine blk_alloc ?_ _)); exact BK101.out)) : gb102 ≠ gb101)); clear HO1_2; clear HO1_3; clear HO2_2; clear HO2_3; clear BK101; clear HB; have HO1_2 := n0_; have HO1_3 := n1_; have HO2_2 := n2_; have HO2_3 := n3_; have BK101 := n4_; have HB := n5_; have BK102 := n6_; have GW102 := n7_; have GE102 := n8_; have NB101_102 := n9_; have NB102_101 := n10_; clear n0_ n1_ n2_ n3_ n4_ n5_ n6_ n7_ n8_ n9_ n10_; clear hb hbox hg) | ((with_reducible refine gate_dst (N := 6) rfl ?_); refine box_event ?hg (N := 6) ?hd (cs := #[.int .i64 0, .int .u64 0, .slice none 0 0, .slice none 0 0]) (t := 26) ?hr ?_; (case hd => rfl); (case hg => rfl); (case hr => first | (go_simp; done) | (go_simp; rfl)); intro gb103 hg w6 hbox hb; have n0_ := Aside0.mk (Kd.V_below (Kd.V_elderB (by (with_reducible repeat (first | apply Kd.V_alloc | apply Kd.V_drewN | apply Kd.V_drew)); exact HO1_2.out) gb103 (Nat.le_of_eq hg.symm)) hb); have n1_ := Aside0.mk (Kd.V_below (Kd.V_elderB (by (with_reducible repeat (first | apply Kd.V_alloc | apply Kd.V_drewN | apply Kd.V_drew)); exact HO1_3.out) gb103 (Nat.le_of_eq hg.symm)) hb); have n2_ := Aside0.mk (Kd.V_below (Kd.V_elderB (by (with_reducible repeat (first | apply Kd.V_alloc | apply Kd.V_drewN | apply Kd.V_drew)); exact HO2_2.out) gb103 (Nat.le_of_eq hg.symm)) hb); have n3_ := Aside0.mk (Kd.V_below (Kd.V_elderB (by (with_reducible repeat (first | apply Kd.V_alloc | apply Kd.V_drewN | apply Kd.V_drew)); exact HO2_3.out) gb103 (Nat.le_of_eq hg.symm)) hb); have n4_ := Aside0.mk (blk_below (g := gb101) (o := .cells #[.int .i64 a1_0, .int .u64 a1_1, .slice A1_2 l1_2.length c1_2, .slice A1_3 l1_3.length c1_3] 26 (0, 0)) (by (with_reducible repeat (first | refine blk_drewN ?_ _ | refine blk_drew ?_ | refine blk_alloc ?_ _)); exact BK101.out) hb); have n5_ := Aside0.mk (blk_below (g := gb102) (o := .cells #[.int .i64 a2_0, .int .u64 a2_1, .slice A2_2 l2_2.length c2_2, .slice A2_3 l2_3.length c2_3] 26 (0, 0)) (by (with_reducible repeat (first | refine blk_drewN ?_ _ | refine blk_drew ?_ | refine blk_alloc ?_ _)); exact BK102.out) hb); have n6_ := Aside0.mk (below_step (by repeat (first | (with_reducible first | exact HB.out | apply below_alloc | apply pw_below_drewN | apply below_drew1 | refine below_set ?_ GE101.out | refine below_set ?_ GE102.out) | exact HB.out)) hb); have n7_ := Aside0.mk (hbox); have n8_ := Aside0.mk ((by rw [hg]; exact (below_size (by repeat (first | (with_reducible first | exact HB.out | apply below_alloc | apply pw_below_drewN | apply below_drew1 | refine below_set ?_ GE101.out | refine below_set ?_ GE102.out) | exact HB.out))) : w.heap.size ≤ gb103)); have n9_ := Aside0.mk ((by rw [hg]; exact (below_size (by repeat (first | (with_reducible first | exact HB.out | apply below_alloc | apply pw_below_drewN | apply below_drew1 | refine below_set ?_ GE101.out | refine below_set ?_ GE102.out) | exact HB.out))) : w.heap.size ≤ gb103)); have n10_ := Aside0.mk ((by rw [hg]; exact Nat.ne_of_lt (blk_lt (g := gb101) (o := .cells #[.int .i64 a1_0, .int .u64 a1_1, .slice A1_2 l1_2.length c1_2, .slice A1_3 l1_3.length c1_3] 26 (0, 0)) (by (with_reducible repeat (first | refine blk_drewN ?_ _ | refine blk_drew ?_ | refine blk_alloc ?_ _)); exact BK101.out)) : gb101 ≠ gb103)); have n11_ := Aside0.mk ((by rw [hg]; exact Nat.ne_of_gt (blk_lt (g := gb101) (o := .cells #[.int .i64 a1_0, .int .u64 a1_1, .slice A1_2 l1_2.length c1_2, .slice A1_3 l1_3.length c1_3] 26 (0, 0)) (by (with_reducible repeat (first | refine blk_drewN ?_ _ | refine blk_drew ?_ | refine blk_alloc ?_ _)); exact BK101.out)) : gb103 ≠ gb101)); have n12_ := Aside0.mk ((by rw [hg]; exact Nat.ne_of_lt (blk_lt (g := gb102) (o := .cells #[.int .i64 a2_0, .int .u64 a2_1, .slice A2_2 l2_2.length c2_2, .slice A2_3 l2_3.length c2_3] 26 (0, 0)) (by (with_reducible repeat (first | refine blk_drewN ?_ _ | refine blk_drew ?_ | refine blk_alloc ?_ _)); exact BK102.out)) : gb102 ≠ gb103)); have n13_ := Aside0.mk ((by rw [hg]; exact Nat.ne_of_gt (blk_lt (g := gb102) (o := .cells #[.int .i64 a2_0, .int .u64 a2_1, .slice A2_2 l2_2.length c2_2, .slice A2_3 l2_3.length c2_3] 26 (0, 0)) (by (with_reducible repeat (first | refine blk_drewN ?_ _ | refine blk_drew ?_ | refine blk_alloc ?_ _)); exact BK102.out)) : gb103 ≠ gb102)); clear HO1_2; clear HO1_3; clear HO2_2; clear HO2_3; clear BK101; clear BK102; clear HB; have HO1_2 := n0_; have HO1_3 := n1_; have HO2_2 := n2_; have HO2_3 := n3_; have BK101 := n4_; have BK102 := n5_; have HB := n6_; have BK103 := n7_; have GW103 := n8_; have GE103 := n9_; have NB101_103 := n10_; have NB103_101 := n11_; have NB102_103 := n12_; have NB103_102 := n13_; clear n0_ n1_ n2_ n3_ n4_ n5_ n6_ n7_ n8_ n9_ n10_ n11_ n12_ n13_; clear hb hbox hg; have hnb7 := NB101_102.out; have hnc7 := NB102_101.out; have hnb8 := NB101_103.out; have hnc8 := NB103_101.out; have hcz9_0 : w6.cell? ⟨gb101, 0, none⟩ = some (.int .i64 a1_0) := (blk_cell BK101.out 0).trans rfl; have hcz9_1 : w6.cell? ⟨gb101, 1, none⟩ = some (.int .u64 a1_1) := (blk_cell BK101.out 1).trans rfl; have hcz9_2 : w6.cell? ⟨gb101, 2, none⟩ = some (.slice A1_2 l1_2.length c1_2) := (blk_cell BK101.out 2).trans rfl; have hcz9_3 : w6.cell? ⟨gb101, 3, none⟩ = some (.slice A1_3 l1_3.length c1_3) := (blk_cell BK101.out 3).trans rfl; have hfz9_0 := blk_frozen BK101.out 0; have hfz9_1 := blk_frozen BK101.out 1; have hfz9_2 := blk_frozen BK101.out 2; have hfz9_3 := blk_frozen BK101.out 3; have hnb10 := NB102_103.out; have hnc10 := NB103_102.out; have hcz11_0 : w6.cell? ⟨gb102, 0, none⟩ = some (.int .i64 a2_0) := (blk_cell BK102.out 0).trans rfl; have hcz11_1 : w6.cell? ⟨gb102, 1, none⟩ = some (.int .u64 a2_1) := (blk_cell BK102.out 1).trans rfl; have hcz11_2 : w6.cell? ⟨gb102, 2, none⟩ = some (.slice A2_2 l2_2.length c2_2) := (blk_cell BK102.out 2).trans rfl; have hcz11_3 : w6.cell? ⟨gb102, 3, none⟩ = some (.slice A2_3 l2_3.length c2_3) := (blk_cell BK102.out 3).trans rfl; have hfz11_0 := blk_frozen BK102.out 0; have hfz11_1 := blk_frozen BK102.out 1; have hfz11_2 := blk_frozen BK102.out 2; have hfz11_3 := blk_frozen BK102.out 3) | ((with_reducible refine gate_dst (N := 10) rfl ?_); refine Kd.N_lit k26 _ 26 ?hg (N' := 10) ?hd (xs := ([(⟨a1_0, a1_1, l1_2, l1_3⟩ : S26), (⟨a2_0, a2_1, l2_2, l2_3⟩ : S26)] : List (S26))) (inner := [.int .i64 a1_0, .int .u64 a1_1, .slice A1_2 l1_2.length c1_2, .slice A1_3 l1_3.length c1_3, .int .i64 a2_0, .int .u64 a2_1, .slice A2_2 l2_2.length c2_2, .slice A2_3 l2_3.length c2_3]) (ok := (fun k_ => ((P1_2_ k_ ∨ P1_3_ k_ ∨ P2_2_ k_ ∨ P2_3_ k_) ∨ w.heap.size ≤ k_) ∧ k_ ≠ gb101 ∧ k_ ≠ gb102 ∧ k_ ≠ gb103)) (okp := (fun k_ => ((P1_2_ k_ ∨ P1_3_ k_ ∨ P2_2_ k_ ∨ P2_3_ k_) ∨ w.heap.size ≤ k_) ∧ k_ ≠ gb101 ∧ k_ ≠ gb102 ∧ k_ ≠ gb103)) ?hr ?hp (fun _ hk => hk) ((show ∀ k_, w6.heap.size ≤ k_ → (fun k_ => ((P1_2_ k_ ∨ P1_3_ k_ ∨ P2_2_ k_ ∨ P2_3_ k_) ∨ w.heap.size ≤ k_) ∧ k_ ≠ gb101 ∧ k_ ≠ gb102 ∧ k_ ≠ gb103) k_ from fun k_ hk => ⟨(.inr (Nat.le_trans (below_size (by repeat (first | (with_reducible first | exact HB.out | apply below_alloc | apply pw_below_drewN | apply below_drew1 | refine below_set ?_ GE101.out | refine below_set ?_ GE102.out | refine below_set ?_ GE103.out) | exact HB.out))) hk)), Kd.freshB (g := gb101) (o := .cells #[.int .i64 a1_0, .int .u64 a1_1, .slice A1_2 l1_2.length c1_2, .slice A1_3 l1_3.length c1_3] 26 (0, 0)) (by (with_reducible repeat (first | refine blk_drewN ?_ _ | refine blk_drew ?_ | refine blk_alloc ?_ _)); exact BK101.out) k_ hk, Kd.freshB (g := gb102) (o := .cells #[.int .i64 a2_0, .int .u64 a2_1, .slice A2_2 l2_2.length c2_2, .slice A2_3 l2_3.length c2_3] 26 (0, 0)) (by (with_reducible repeat (first | refine blk_drewN ?_ _ | refine blk_drew ?_ | refine blk_alloc ?_ _)); exact BK102.out) k_ hk, Kd.freshB (g := gb103) (o := .cells #[.int .i64 0, .int .u64 0, .slice none 0 0, .slice none 0 0] 26 (0, 0)) (by (with_reducible repeat (first | refine blk_drewN ?_ _ | refine blk_drew ?_ | refine blk_alloc ?_ _)); exact BK103.out) k_ hk⟩) _ (Nat.le_refl _)) (Below.refl _ _) (Nat.le_refl _) (by simp) ?_; (case hd => rfl); (case hg => rfl); (case hr => first | (go_simp; done) | (go_simp; rfl)); (case hp => exact (Reps.c4 (show Kd.FK k26 _ _ (⟨a1_0, a1_1, l1_2, l1_3⟩ : S26) [.int .i64 a1_0, .int .u64 a1_1, .slice A1_2 l1_2.length c1_2, .slice A1_3 l1_3.length c1_3] from (k26_mkF _ _ (⟨a1_0, a1_1, l1_2, l1_3⟩ : S26) (Kd.V_reads' (Kd.V_mono (ok' := (fun k_ => ((P1_2_ k_ ∨ P1_3_ k_ ∨ P2_2_ k_ ∨ P2_3_ k_) ∨ w.heap.size ≤ k_) ∧ k_ ≠ gb101 ∧ k_ ≠ gb102 ∧ k_ ≠ gb103)) (HO1_2.out) (fun k_ hk => ⟨hk.1.1.1, ⟨hk.1.1.2, ⟨hk.1.2, hk.2⟩⟩⟩))).2.1 (Kd.V_F (Kd.V_mono (ok' := (fun k_ => ((P1_2_ k_ ∨ P1_3_ k_ ∨ P2_2_ k_ ∨ P2_3_ k_) ∨ w.heap.size ≤ k_) ∧ k_ ≠ gb101 ∧ k_ ≠ gb102 ∧ k_ ≠ gb103)) (HO1_2.out) (fun k_ hk => ⟨hk.1.1.1, ⟨hk.1.1.2, ⟨hk.1.2, hk.2⟩⟩⟩))) (Kd.V_reads' (Kd.V_mono (ok' := (fun k_ => ((P1_2_ k_ ∨ P1_3_ k_ ∨ P2_2_ k_ ∨ P2_3_ k_) ∨ w.heap.size ≤ k_) ∧ k_ ≠ gb101 ∧ k_ ≠ gb102 ∧ k_ ≠ gb103)) (HO1_3.out) (fun k_ hk => ⟨hk.1.1.1, ⟨hk.1.1.2, ⟨hk.1.2, hk.2⟩⟩⟩))).2.1 (Kd.V_F (Kd.V_mono (ok' := (fun k_ => ((P1_2_ k_ ∨ P1_3_ k_ ∨ P2_2_ k_ ∨ P2_3_ k_) ∨ w.heap.size ≤ k_) ∧ k_ ≠ gb101 ∧ k_ ≠ gb102 ∧ k_ ≠ gb103)) (HO1_3.out) (fun k_ hk => ⟨hk.1.1.1, ⟨hk.1.1.2, ⟨hk.1.2, hk.2⟩⟩⟩))))) (Reps.c4 (show Kd.FK k26 _ _ (⟨a2_0, a2_1, l2_2, l2_3⟩ : S26) [.int .i64 a2_0, .int .u64 a2_1, .slice A2_2 l2_2.length c2_2, .slice A2_3 l2_3.length c2_3] from (k26_mkF _ _ (⟨a2_0, a2_1, l2_2, l2_3⟩ : S26) (Kd.V_reads' (Kd.V_mono (ok' := (fun k_ => ((P1_2_ k_ ∨ P1_3_ k_ ∨ P2_2_ k_ ∨ P2_3_ k_) ∨ w.heap.size ≤ k_) ∧ k_ ≠ gb101 ∧ k_ ≠ gb102 ∧ k_ ≠ gb103)) (HO2_2.out) (fun k_ hk => ⟨hk.1.1.1, ⟨hk.1.1.2, ⟨hk.1.2, hk.2⟩⟩⟩))).2.1 (Kd.V_F (Kd.V_mono (ok' := (fun k_ => ((P1_2_ k_ ∨ P1_3_ k_ ∨ P2_2_ k_ ∨ P2_3_ k_) ∨ w.heap.size ≤ k_) ∧ k_ ≠ gb101 ∧ k_ ≠ gb102 ∧ k_ ≠ gb103)) (HO2_2.out) (fun k_ hk => ⟨hk.1.1.1, ⟨hk.1.1.2, ⟨hk.1.2, hk.2⟩⟩⟩))) (Kd.V_reads' (Kd.V_mono (ok' := (fun k_ => ((P1_2_ k_ ∨ P1_3_ k_ ∨ P2_2_ k_ ∨ P2_3_ k_) ∨ w.heap.size ≤ k_) ∧ k_ ≠ gb101 ∧ k_ ≠ gb102 ∧ k_ ≠ gb103)) (HO2_3.out) (fun k_ hk => ⟨hk.1.1.1, ⟨hk.1.1.2, ⟨hk.1.2, hk.2⟩⟩⟩))).2.1 (Kd.V_F (Kd.V_mono (ok' := (fun k_ => ((P1_2_ k_ ∨ P1_3_ k_ ∨ P2_2_ k_ ∨ P2_3_ k_) ∨ w.heap.size ≤ k_) ∧ k_ ≠ gb101 ∧ k_ ≠ gb102 ∧ k_ ≠ gb103)) (HO2_3.out) (fun k_ hk => ⟨hk.1.1.1, ⟨hk.1.1.2, ⟨hk.1.2, hk.2⟩⟩⟩))))) (Reps.none _ _)))); intro v105 w12 ho13 hb hg_ hnew_; clear hg_ hnew_; (first | rw [← Ny104.out] at ho13 | (simp only [Int.reduceToNat] at ho13; rw [← Ny104.out] at ho13)); have n0_ := Aside0.mk (Kd.V_elder' (by (with_reducible repeat (first | apply Kd.V_alloc | apply Kd.V_drewN | apply Kd.V_drew)); exact HO1_2.out) (Kd.N_base ho13) hb); have n1_ := Aside0.mk (Kd.V_elder' (by (with_reducible repeat (first | apply Kd.V_alloc | apply Kd.V_drewN | apply Kd.V_drew)); exact HO1_3.out) (Kd.N_base ho13) hb); have n2_ := Aside0.mk (Kd.V_elder' (by (with_reducible repeat (first | apply Kd.V_alloc | apply Kd.V_drewN | apply Kd.V_drew)); exact HO2_2.out) (Kd.N_base ho13) hb); have n3_ := Aside0.mk (Kd.V_elder' (by (with_reducible repeat (first | apply Kd.V_alloc | apply Kd.V_drewN | apply Kd.V_drew)); exact HO2_3.out) (Kd.N_base ho13) hb); have n4_ := Aside0.mk (Kd.N_lower ho13 (below_size (by repeat (first | (with_reducible first | exact HB.out | apply below_alloc | apply pw_below_drewN | apply below_drew1 | refine below_set ?_ GE101.out | refine below_set ?_ GE102.out | refine below_set ?_ GE103.out) | exact HB.out)))); have n5_ := Aside0.mk (blk_below (g := gb101) (o := .cells #[.int .i64 a1_0, .int .u64 a1_1, .slice A1_2 l1_2.length c1_2, .slice A1_3 l1_3.length c1_3] 26 (0, 0)) (by (with_reducible repeat (first | refine blk_drewN ?_ _ | refine blk_drew ?_ | refine blk_alloc ?_ _)); exact BK101.out) hb); have n6_ := Aside0.mk (blk_below (g := gb102) (o := .cells #[.int .i64 a2_0, .int .u64 a2_1, .slice A2_2 l2_2.length c2_2, .slice A2_3 l2_3.length c2_3] 26 (0, 0)) (by (with_reducible repeat (first | refine blk_drewN ?_ _ | refine blk_drew ?_ | refine blk_alloc ?_ _)); exact BK102.out) hb); have n7_ := Aside0.mk (blk_below (g := gb103) (o := .cells #[.int .i64 0, .int .u64 0, .slice none 0 0, .slice none 0 0] 26 (0, 0)) (by (with_reducible repeat (first | refine blk_drewN ?_ _ | refine blk_drew ?_ | refine blk_alloc ?_ _)); exact BK103.out) hb); have n8_ := Aside0.mk (below_step (by repeat (first | (with_reducible first | exact HB.out | apply below_alloc | apply pw_below_drewN | apply below_drew1 | refine below_set ?_ GE101.out | refine below_set ?_ GE102.out | refine below_set ?_ GE103.out) | exact HB.out)) hb); clear HO1_2; clear HO1_3; clear HO2_2; clear HO2_3; clear BK101; clear BK102; clear BK103; clear HB; have HO1_2 := n0_; have HO1_3 := n1_; have HO2_2 := n2_; have HO2_3 := n3_; have HO106 := n4_; have BK101 := n5_; have BK102 := n6_; have BK103 := n7_; have HB := n8_; clear n0_ n1_ n2_ n3_ n4_ n5_ n6_ n7_ n8_; clear hb ho13; obtain ⟨Ao14, co14, eo14⟩ := Kd.N_slice HO106.out; subst eo14; have hcz15_0 : w12.cell? ⟨gb103, 0, none⟩ = some (.int .i64 0) := (blk_cell BK103.out 0).trans rfl; have hcz15_1 : w12.cell? ⟨gb103, 1, none⟩ = some (.int .u64 0) := (blk_cell BK103.out 1).trans rfl; have hcz15_2 : w12.cell? ⟨gb103, 2, none⟩ = some (.slice none 0 0) := (blk_cell BK103.out 2).trans rfl; have hcz15_3 : w12.cell? ⟨gb103, 3, none⟩ = some (.slice none 0 0) := (blk_cell BK103.out 3).trans rfl; have hfz15_0 := blk_frozen BK103.out 0; have hfz15_1 := blk_frozen BK103.out 1; have hfz15_2 := blk_frozen BK103.out 2; have hfz15_3 := blk_frozen BK103.out 3))
 refine bodyPost_ret (results_cell_row rfl _ _ gb103 26 #[.int .i64 5, .int .u64 a0, .slice none 0 0, .slice Ao14 y104.length co14] (0, 0) _ rfl (by (with_reducible repeat (first | refine blk_drewN ?_ _ | refine blk_drew ?_ | refine blk_alloc ?_ _)); refine blk_put (cs := #[.int .i64 5, .int .u64 a0, .slice none 0 0, .slice none 0 0]) ?_ 3 _ rfl; (with_reducible repeat (first | refine blk_drewN ?_ _ | refine blk_drew ?_ | refine blk_alloc ?_ _)); refine blk_put (cs := #[.int .i64 5, .int .u64 a0, .slice none 0 0, .slice none 0 0]) ?_ 2 _ rfl; (with_reducible repeat (first | refine blk_drewN ?_ _ | refine blk_drew ?_ | refine blk_alloc ?_ _)); refine blk_put (cs := #[.int .i64 5, .int .u64 0, .slice none 0 0, .slice none 0 0]) ?_ 1 _ rfl; (with_reducible repeat (first | refine blk_drewN ?_ _ | refine blk_drew ?_ | refine blk_alloc ?_ _)); refine blk_put (cs := #[.int .i64 0, .int .u64 0, .slice none 0 0, .slice none 0 0]) ?_ 0 _ rfl; (with_reducible repeat (first | refine blk_drewN ?_ _ | refine blk_drew ?_ | refine blk_alloc ?_ _)); exact BK103.out) Try.underlying26 rfl (by kernel_rfl)) rfl ?_
 exact ⟨_, _, by first | rfl | (simp [errW_none, errW_some] <;> rfl) | (simp [*, errW_none, errW_some] <;> rfl), by first | exact Kd.R_nil _ _ _ _ _ | exact Kd.N_nil _ _ _ _ _ | exact Kd.V_nil _ _ _ _ _ | exact Kd.Q_nil _ _ _ _ _ | exact Kd.S_nil _ _ _ _ _, by (with_reducible repeat (first | apply Kd.N_alloc | apply Kd.N_drewN | apply Kd.N_drew)); exact Kd.N_mono (Kd.N_far (p := ⟨gb103, 3, none⟩) (Kd.N_far (p := ⟨gb103, 2, none⟩) (Kd.N_far (p := ⟨gb103, 1, none⟩) (Kd.N_far (p := ⟨gb103, 0, none⟩) (Kd.N_mono HO106.out (fun k_ hk => (⟨hk, hk.2.2.2⟩ : _ ∧ k_ ≠ gb103))) (fun _ hk => hk.2) (.int .i64 5)) (fun _ hk => hk.2) (.int .u64 a0)) (fun _ hk => hk.2) (.slice none 0 0)) (fun _ hk => hk.2) (.slice Ao14 y104.length co14)) (fun _ hk => ⟨hk.1.1, (by simp [Value.ownBlock])⟩), by repeat (first | (with_reducible first | exact HB.out | apply below_alloc | apply pw_below_drewN | apply below_drew1 | refine below_set ?_ GE101.out | refine below_set ?_ GE102.out | refine below_set ?_ GE103.out) | exact HB.out)⟩

end Go.Proofs.Ytgohmganimamcaa.PZ
-- printed for this claim by a program (pall.sh)
-- mended by fixpz.py
namespace Go.Proofs.Ytgohmganimamcaa.PZ
open Go.RowKit Go.Proofs.YtgohmganimamcaaW.PrintWords Go.Proofs.YtgohmganimamcaaW.PrintLast Go.Proofs.YtgohmganimamcaaW.PrintMore
attribute [local go_sem] max2_int min2_int max_two min_two max_three min_three max_four min_four   -- for this text's walks alone
set_option linter.unusedVariables false
set_option linter.unusedSimpArgs false

/-! ### hanaperlaw05_num: function 15 -/
def hanaperlaw05_num.f (a0 : Int) : Option (Int) := some a0
set_option maxHeartbeats 8000000 in
set_option maxRecDepth 100000 in
theorem hanaperlaw05_num.calls (a0 : Int) (r : Int) (w : World) (h : hanaperlaw05_num.f a0 = some r) :
  Calls Try.prog 15 #[.int .i64 a0] w fun e w' => e = .returned (.int .i64 r) ∧ Drawn0 w w' := by
 have H : (some a0) = some r := h
 clear h
 obtain rfl := Option.some.inj H
 go_enter Try.func15, Try.ntmps15
 go_wp2
 go_ret
 exact ⟨by first | rfl | (simp; done) | (simp [*]; done), by repeat (first | exact Drawn0.refl _ | apply Drawn0.step)⟩

end Go.Proofs.Ytgohmganimamcaa.PZ
/- The example of layer 5. -/
namespace Go.Proofs.Ytgohmganimamcaa.Term
set_option linter.unusedVariables false
set_option linter.unusedSimpArgs false
open Go.RowKit Go.Proofs.Ytgohmganimamcaa.Base Go.Proofs.Ytgohmganimamcaa.TlvPlain Go.Proofs.Ytgohmganimamcaa.Lo Go.Proofs.Ytgohmganimamcaa.RdPlain Go.Proofs.Ytgohmganimamcaa.Aid Go.Proofs.Ytgohmganimamcaa.PZ Go.Proofs.YtgohmganimamcaaW.PrintWords Go.Proofs.YtgohmganimamcaaW.PrintLast Go.Proofs.YtgohmganimamcaaW.PrintMore
theorem numB_small {n : Nat} (h0 : 0 < n) (h : n < 256) : numB (n : Int) = [1, (n : Int)] := by
  unfold numB
  rw [show ((n : Int)).toNat = n from rfl, be_pos h0, show n / 256 = 0 by omega, be_zero]
  simp
  omega
def exE : ST := ⟨5, 5, [], [⟨3, 0, [97], []⟩, ⟨2, 7, [], []⟩]⟩
theorem put_ex : putT exE = [5, 1, 5, 3, 1, 1, 97, 2, 1, 7] := by
  have h5 : numB 5 = [1, 5] := numB_small (n := 5) (by omega) (by omega)
  have h7 : numB 7 = [1, 7] := numB_small (n := 7) (by omega) (by omega)
  have ha : textB [97] = [1, 1, 97] := by
    unfold textB
    rw [show numB (([97] : List Int).length : Int) = [1, 1] from numB_small (n := 1) (by omega) (by omega)]
    rfl
  unfold exE
  simp [putT_eq, headT, numT, datT, h5, h7, ha]
theorem may_ex : mayT 8 exE = true := by decide +kernel
theorem wf_ex : wfT exE := (wfB_iff _).1 (by decide +kernel)
theorem putV_ex : putV exE = ([5, 1, 5, 3, 1, 1, 97, 2, 1, 7], 0) := by
  unfold putV
  rw [if_pos may_ex, put_ex]
  rfl
theorem get_ex : getT [5, 1, 5, 3, 1, 1, 97, 2, 1, 7] = (exE, 10, 0) := by
  have h := t_get_put wf_ex may_ex (by rw [put_ex]; decide) []
  rw [List.append_nil, put_ex] at h
  exact h
theorem u8_ex : U8 [5, 1, 5, 3, 1, 1, 97, 2, 1, 7] := by intro x hx; simp at hx; omega
theorem hcr (w : World) (o : Obj) (n : Nat) : Kd.C (Kd.int .u8) (((w.alloc o).drewN n).alloc (.cells #[.int .u8 5, .int .u8 1, .int .u8 5, .int .u8 3, .int .u8 1, .int .u8 1, .int .u8 97, .int .u8 2, .int .u8 1, .int .u8 7] 5)) (some ⟨w.heap.size + 1, 0, none⟩) 10 [5, 1, 5, 3, 1, 1, 97, 2, 1, 7] := by
  have h := const_reads ((w.alloc o).drewN n) [5, 1, 5, 3, 1, 1, 97, 2, 1, 7] #[.int .u8 5, .int .u8 1, .int .u8 5, .int .u8 3, .int .u8 1, .int .u8 1, .int .u8 97, .int .u8 2, .int .u8 1, .int .u8 7] (0, 0) rfl (by simp)
  rw [show ((w.alloc o).drewN n).heap.size = w.heap.size + 1 from size_alloc w o] at h
  exact h
set_option maxHeartbeats 3200000 in
set_option maxRecDepth 100000 in
theorem live_c (w : World) : Calls Try.prog 11 #[] w fun e w' => e = .returned (.bool true) ∧ Below w.heap.size w w' := by
  have HB := Aside0.mk (Below.refl w.heap.size w)
  have kc := fun (w : World) (C : Array Value) (n c : Nat) => Lib.run_convert_bytes_const (P := Try.prog) w 23 5 C n c Try.underlying23 Try.underlying5
  have hu26 := Try.underlying26
  go_enter Try.func11, Try.ntmps11
  go_wp2_with (first
    | (go_at_call 38; refine (term_Data.calls (some ⟨_, 0, none⟩) 1 [97] 3 0 [97] [] _ (const_reads _ [97] #[.int .u8 97] (1, 2) rfl (by simp)) (by simp) (by simp [term_Data.f, bytes_Clone.f])).mono ?_; rintro e w1 ⟨v2, v3, rfl, ho2, ho3, hb⟩; have HO2 := Aside0.mk ho2; have HO3 := Aside0.mk ho3; have HB1 := Aside0.mk (below_step (below_alloc HB.out _) hb); obtain ⟨A2, c2, rfl⟩ := Kd.R_slice ho2; obtain ⟨A3, c3, rfl⟩ := Kd.R_slice ho3; clear ho2 ho3 hb)
    | (go_at_call 37; refine (term_Key.calls 7 2 7 [] [] _ rfl).mono ?_; rintro e w2 ⟨v4, v5, rfl, ho4, ho5, hb⟩; have HO2' := Aside0.mk (Kd.R_below HO2.out hb); have HO3' := Aside0.mk (Kd.R_below HO3.out hb); have HO4 := Aside0.mk ho4; have HO5 := Aside0.mk ho5; have HB2 := Aside0.mk (below_step HB1.out hb); obtain ⟨A4, c4, rfl⟩ := Kd.R_slice ho4; obtain ⟨A5, c5, rfl⟩ := Kd.R_slice ho5; clear ho4 ho5 hb)
    | (go_at_call 34; refine (term_Enc.calls 5 3 0 _ A2 c2 [97] _ A3 c3 [] 2 7 _ A4 c4 [] _ A5 c5 [] 5 5 [] [⟨3, 0, [97], []⟩, ⟨2, 7, [], []⟩] _ (Kd.R_V HO2'.out) (Kd.R_V HO3'.out) (Kd.R_V HO4.out) (Kd.R_V HO5.out) rfl).mono ?_; rintro e w3 ⟨v6, v7, rfl, ho6, ho7, hb⟩; obtain ⟨A6, c6, rfl⟩ := Kd.R_slice ho6; obtain ⟨A7, c7, rfl⟩ := Kd.N_slice ho7; have HO6 := Aside0.mk (Kd.R_reads' ho6); have HO7 := Aside0.mk (Kd.N_reads' ho7); have HB3 := Aside0.mk (below_step HB2.out hb); clear hb ho6 ho7)
    | (go_at_call 12; refine (put_c exE wf_ex A6 c6 A7 c7 _ ⟨⟨HO6.out.2.1, HO6.out.2.2⟩, HO7.out.2.1, HO7.out.2.2⟩).mono ?_; rw [putV_ex]; rintro e w4 ⟨v, rfl, ho, hb⟩; obtain ⟨A8, c8, rfl, hl8, hr8⟩ := Ob.reads ho; have HL8 := Aside0.mk hl8; have HR8 := Aside0.mk hr8; have HB4 := Aside0.mk (below_step HB3.out hb); clear ho hb hl8 hr8)
    | (go_at_call 18; refine (get_c _ A8 c8 [5, 1, 5, 3, 1, 1, 97, 2, 1, 7] HR8.out HL8.out (by simp) u8_ex).mono ?_; unfold GetQ; rw [get_ex]; rintro e w5 ⟨v9, v10, rfl, ho, ho2, hb⟩; obtain ⟨A9, c9, rfl⟩ := Kd.R_slice ho; obtain ⟨A10, c10, rfl⟩ := Kd.R_slice ho2; dsimp only [exE]; have HB5 := Aside0.mk (below_step HB4.out hb); have HR9 := Aside0.mk (Kd.C_below HR8.out hb); clear ho ho2 hb)
    | (go_at_call 15; refine (hanaperlaw05_num.calls 0 0 _ rfl).mono ?_; rintro e w' ⟨rfl, ⟨nd, rfl⟩⟩)
    | (go_at_call 14; go_must (refine (same_c A8 c8 [5, 1, 5, 3, 1, 1, 97, 2, 1, 7] (some ⟨w5.heap.size + 1, 0, none⟩) 10 [5, 1, 5, 3, 1, 1, 97, 2, 1, 7] _ (Kd.C_alloc (Kd.C_drewN (Kd.C_alloc HR9.out _) _) _) HL8.out (hcr _ _ _) (by simp) (by simp)).mono ?_); rintro e w6 ⟨rfl, hd⟩; have HB6 := Aside0.mk (below_step (below_alloc (pw_below_drewN (below_alloc HB5.out _) _) _) (Drawn0.below hd)); have hb5 := (((show Blk (w5.alloc (.cells #[.int .i64 5, .int .u64 5, .slice A9 0 c9, .slice A10 2 c10] 26)) w5.heap.size 26 #[.int .i64 5, .int .u64 5, .slice A9 0 c9, .slice A10 2 c10] from blk_new _ _).below (pw_below_drewN (Below.refl _ _) _)).alloc _).below (Drawn0.below hd); have q0 := hb5.cell 0; simp only [List.getElem?_toArray, List.getElem?_cons_zero, List.getElem?_cons_succ] at q0; clear hd hb5))
  go_ret
  exact ⟨rfl, HB6.out⟩
end Go.Proofs.Ytgohmganimamcaa.Term
/- The example of layer 5 in the printed functions' form. -/
namespace Go.Proofs.Ytgohmganimamcaa.PZ
set_option linter.unusedVariables false
open Go.RowKit Go.Proofs.YtgohmganimamcaaW.PrintWords Go.Proofs.Ytgohmganimamcaa.Term
end Go.Proofs.Ytgohmganimamcaa.PZ
-- printed for this claim by a program (pall.sh)
-- mended by fixpz.py
namespace Go.Proofs.Ytgohmganimamcaa.PZ
open Go.RowKit Go.Proofs.YtgohmganimamcaaW.PrintWords Go.Proofs.YtgohmganimamcaaW.PrintLast Go.Proofs.YtgohmganimamcaaW.PrintMore
attribute [local go_sem] max2_int min2_int max_two min_two max_three min_three max_four min_four   -- for this text's walks alone
set_option linter.unusedVariables false
set_option linter.unusedSimpArgs false

/-! ### hanaperref05_rest: function 40 -/
mutual
def hanaperref05_rest.j0 : Nat → Int → Int → Bool → Int → Int → List Int → List (S26) → Option (Int)
 | 0, _, _, _, _, _, _, _ => none
 | k + 1, x1, x2, x26, x102000, x102001, x102002, x102003 => if x26 = true then (some (-1)) else (hanaperref05_rest.l0 k (wrap64 (x1 - 1)) x2 0 x102000 x102001 x102002 x102003)
def hanaperref05_rest.l0 : Nat → Int → Int → Int → Int → Int → List Int → List (S26) → Option (Int)
 | 0, _, _, _, _, _, _, _ => none
 | k + 1, x1, x2, x7, x102000, x102001, x102002, x102003 => if x7 < (x102003.length : Int) then (if x1 ≥ 0 then (if 0 ≤ x7 then ((hanaperref05_rest.f k ((rd_T26 x102003 x7).f0) ((rd_T26 x102003 x7).f1) ((rd_T26 x102003 x7).f2) ((rd_T26 x102003 x7).f3) x1 (wrap64 (x2 - 1))).bind fun t103 => (hanaperref05_rest.l0 k t103 x2 (wrap64 (x7 + 1)) x102000 x102001 x102002 x102003)) else (none)) else (some x1)) else (some x1)
def hanaperref05_rest.f : Nat → Int → Int → List Int → List (S26) → Int → Int → Option (Int)
 | 0, _, _, _, _, _, _ => none
 | k + 1, a0_0, a0_1, l0_2, l0_3, a1, a2 => if a1 < 1 then (hanaperref05_rest.j0 k a1 a2 true a0_0 a0_1 l0_2 l0_3) else (if a2 < 1 then (hanaperref05_rest.j0 k a1 a2 true a0_0 a0_1 l0_2 l0_3) else (if (l0_3.length : Int) > a1 then (hanaperref05_rest.j0 k a1 a2 true a0_0 a0_1 l0_2 l0_3) else (hanaperref05_rest.j0 k a1 a2 (decide ((l0_2.length : Int) > 500)) a0_0 a0_1 l0_2 l0_3)))
end
set_option maxHeartbeats 8000000 in
set_option maxRecDepth 100000 in
theorem hanaperref05_rest.calls (k : Nat) : ∀ (a0_0 : Int) (a0_1 : Int) (A0_2 : Option Addr) (c0_2 : Nat) (l0_2 : List Int) (A0_3 : Option Addr) (c0_3 : Nat) (l0_3 : List (S26)) (a1 : Int) (a2 : Int) (r : Int) (w : World) (hr0_2 : Kd.C (Kd.int .u8) w A0_2 l0_2.length l0_2) (hc0_2 : l0_2.length ≤ c0_2) (hr0_3 : Kd.C k26 w A0_3 l0_3.length l0_3) (hc0_3 : l0_3.length ≤ c0_3) (h : hanaperref05_rest.f k a0_0 a0_1 l0_2 l0_3 a1 a2 = some r),
  Calls Try.prog 40 #[.agg #[.int .i64 a0_0, .int .u64 a0_1, .slice A0_2 l0_2.length c0_2, .slice A0_3 l0_3.length c0_3], .int .i64 a1, .int .i64 a2] w fun e w' => e = .returned (.int .i64 r) ∧ Below w.heap.size w w' := by
 induction k using Nat.strongRecOn with
 | _ k ih =>
 intro a0_0 a0_1 A0_2 c0_2 l0_2 A0_3 c0_3 l0_3 a1 a2 r w hr0_2 hc0_2 hr0_3 hc0_3 h
 cases k with
 | zero => exact absurd h (by simp [hanaperref05_rest.f])
 | succ k =>
 simp only [hanaperref05_rest.f] at h
 have hu26 := Try.underlying26
 have HR0_2 := Aside0.mk hr0_2
 have HC0_2 := Aside0.mk hc0_2
 clear hr0_2 hc0_2
 have HR0_3 := Aside0.mk hr0_3
 have HC0_3 := Aside0.mk hc0_3
 clear hr0_3 hc0_3
 have HB := Aside0.mk (Below.refl w.heap.size w)
 have H : (if a1 < 1 then (hanaperref05_rest.j0 k a1 a2 true a0_0 a0_1 l0_2 l0_3) else (if a2 < 1 then (hanaperref05_rest.j0 k a1 a2 true a0_0 a0_1 l0_2 l0_3) else (if (l0_3.length : Int) > a1 then (hanaperref05_rest.j0 k a1 a2 true a0_0 a0_1 l0_2 l0_3) else (hanaperref05_rest.j0 k a1 a2 (decide ((l0_2.length : Int) > 500)) a0_0 a0_1 l0_2 l0_3)))) = some r := h
 clear h
 have HC4 := Aside0.mk H
 clear H
 go_enter Try.func40, Try.ntmps40
 go_upto_region 1 with (first | ((with_reducible refine gate_dst (N := 3) rfl ?_); (try (refine gate_guard (by rfl) ?_; dsimp only)); refine box_event ?hg (N := 3) ?hd (cs := #[.int .i64 a0_0, .int .u64 a0_1, .slice A0_2 l0_2.length c0_2, .slice A0_3 l0_3.length c0_3]) (t := 26) ?hr ?_; (case hd => rfl); (case hg => rfl); (case hr => first | (go_simp; done) | (go_simp; rfl)); intro gb101 hg w5 hbox hb; have n0_ := Aside0.mk (below_step (by repeat (first | (with_reducible first | exact HB.out | apply below_alloc | apply pw_below_drewN | apply below_drew1) | exact HB.out)) hb); have n1_ := Aside0.mk (hbox); have n2_ := Aside0.mk ((by rw [hg]; exact (below_size (by repeat (first | (with_reducible first | exact HB.out | apply below_alloc | apply pw_below_drewN | apply below_drew1) | exact HB.out))) : w.heap.size ≤ gb101)); have n3_ := Aside0.mk ((by rw [hg]; exact (below_size (by repeat (first | (with_reducible first | exact HB.out | apply below_alloc | apply pw_below_drewN | apply below_drew1) | exact HB.out))) : w.heap.size ≤ gb101)); clear HB; have HB := n0_; have BK101 := n1_; have GW101 := n2_; have GE101 := n3_; clear n0_ n1_ n2_ n3_; clear hb hbox hg))
 (try simp only [Act.put, List.setIfInBounds_toArray, List.set_cons_zero, List.set_cons_succ])
 go_cut [26] (fun v26 wc => ∃ (kq : Nat) (x26_3 : Bool), v26 = .bool x26_3 ∧ Aside0 (hanaperref05_rest.j0 kq a1 a2 x26_3 a0_0 a0_1 l0_2 l0_3 = some r) ∧ Aside0 (kq ≤ k) ∧ Aside0 (wc.heap[gb101]? = some (.cells #[.int .i64 a0_0, .int .u64 a0_1, (.slice A0_2 l0_2.length c0_2), (.slice A0_3 l0_3.length c0_3)] 26 (0, 0))) ∧ Aside0 (Below w.heap.size w wc))
 case first =>
  have H := HC4.out
  clear HC4
  by_cases c6 : a1 < 1
  ·rw [if_pos c6] at H
   have c6b0 : decide (a1 < 1) = true := decide_eq_true c6
   clear c6
   (first | rw [c6b0] | (simp only [i64_w, i32_w]; rw [c6b0]) | skip)
   have H' := Aside0.mk H
   clear H
   go_wp2
   go_meet
   case rel => exact ⟨_, (true), (by first | rfl | (simp; done) | (simp [*]; done)), H', ⟨by first | omega | exact Nat.le_refl _⟩, ⟨by (with_reducible repeat (first | refine blk_drewN ?_ _ | refine blk_drew ?_ | refine blk_alloc ?_ _)); exact BK101.out⟩, ⟨by repeat (first | (with_reducible first | exact HB.out | apply below_alloc | apply pw_below_drewN | apply below_drew1 | refine below_set ?_ GE101.out) | exact HB.out)⟩⟩
  ·rw [if_neg c6] at H
   have c6b0 : decide (a1 < 1) = false := decide_eq_false c6
   clear c6
   (first | rw [c6b0] | (simp only [i64_w, i32_w]; rw [c6b0]) | skip)
   by_cases c7 : a2 < 1
   ·rw [if_pos c7] at H
    have c7b0 : decide (a2 < 1) = true := decide_eq_true c7
    clear c7
    have H' := Aside0.mk H
    clear H
    go_wp2
    go_meet
    case rel => exact ⟨_, (true), (by first | rfl | (simp; done) | (simp [*]; done)), H', ⟨by first | omega | exact Nat.le_refl _⟩, ⟨by (with_reducible repeat (first | refine blk_drewN ?_ _ | refine blk_drew ?_ | refine blk_alloc ?_ _)); exact BK101.out⟩, ⟨by repeat (first | (with_reducible first | exact HB.out | apply below_alloc | apply pw_below_drewN | apply below_drew1 | refine below_set ?_ GE101.out) | exact HB.out)⟩⟩
   ·rw [if_neg c7] at H
    have c7b0 : decide (a2 < 1) = false := decide_eq_false c7
    clear c7
    by_cases c8 : (l0_3.length : Int) > a1
    ·rw [if_pos c8] at H
     have c8b0 : decide (a1 < (l0_3.length : Int)) = true := decide_eq_true c8
     clear c8
     have H' := Aside0.mk H
     clear H
     have hcz9_0 : w5.cell? ⟨gb101, 0, none⟩ = some (.int .i64 a0_0) := (blk_cell BK101.out 0).trans rfl
     have hcz9_1 : w5.cell? ⟨gb101, 1, none⟩ = some (.int .u64 a0_1) := (blk_cell BK101.out 1).trans rfl
     have hcz9_2 : w5.cell? ⟨gb101, 2, none⟩ = some (.slice A0_2 l0_2.length c0_2) := (blk_cell BK101.out 2).trans rfl
     have hcz9_3 : w5.cell? ⟨gb101, 3, none⟩ = some (.slice A0_3 l0_3.length c0_3) := (blk_cell BK101.out 3).trans rfl
     have hfz9_0 := blk_frozen BK101.out 0
     have hfz9_1 := blk_frozen BK101.out 1
     have hfz9_2 := blk_frozen BK101.out 2
     have hfz9_3 := blk_frozen BK101.out 3
     go_wp2
     go_meet
     case rel => exact ⟨_, (true), (by first | rfl | (simp; done) | (simp [*]; done)), H', ⟨by first | omega | exact Nat.le_refl _⟩, ⟨by (with_reducible repeat (first | refine blk_drewN ?_ _ | refine blk_drew ?_ | refine blk_alloc ?_ _)); exact BK101.out⟩, ⟨by repeat (first | (with_reducible first | exact HB.out | apply below_alloc | apply pw_below_drewN | apply below_drew1 | refine below_set ?_ GE101.out) | exact HB.out)⟩⟩
    ·rw [if_neg c8] at H
     have c8b0 : decide (a1 < (l0_3.length : Int)) = false := decide_eq_false c8
     clear c8
     have H' := Aside0.mk H
     clear H
     have hcz10_0 : w5.cell? ⟨gb101, 0, none⟩ = some (.int .i64 a0_0) := (blk_cell BK101.out 0).trans rfl
     have hcz10_1 : w5.cell? ⟨gb101, 1, none⟩ = some (.int .u64 a0_1) := (blk_cell BK101.out 1).trans rfl
     have hcz10_2 : w5.cell? ⟨gb101, 2, none⟩ = some (.slice A0_2 l0_2.length c0_2) := (blk_cell BK101.out 2).trans rfl
     have hcz10_3 : w5.cell? ⟨gb101, 3, none⟩ = some (.slice A0_3 l0_3.length c0_3) := (blk_cell BK101.out 3).trans rfl
     have hfz10_0 := blk_frozen BK101.out 0
     have hfz10_1 := blk_frozen BK101.out 1
     have hfz10_2 := blk_frozen BK101.out 2
     have hfz10_3 := blk_frozen BK101.out 3
     go_wp2
     go_meet
     case rel => exact ⟨_, (decide ((l0_2.length : Int) > 500)), (by first | rfl | (simp; done) | (simp [*]; done)), H', ⟨by first | omega | exact Nat.le_refl _⟩, ⟨by (with_reducible repeat (first | refine blk_drewN ?_ _ | refine blk_drew ?_ | refine blk_alloc ?_ _)); exact BK101.out⟩, ⟨by repeat (first | (with_reducible first | exact HB.out | apply below_alloc | apply pw_below_drewN | apply below_drew1 | refine below_set ?_ GE101.out) | exact HB.out)⟩⟩
 case rest =>
  clear HC4
  (try clear p2);(try clear c4);(try clear c6);(try clear c6b0);(try clear c7);(try clear c7b0);(try clear c8);(try clear c8b0);(try clear hcz10_0);(try clear hcz10_1);(try clear hcz10_2);(try clear hcz10_3);(try clear hcz9_0);(try clear hcz9_1);(try clear hcz9_2);(try clear hcz9_3);(try clear hfz10_0);(try clear hfz10_1);(try clear hfz10_2);(try clear hfz10_3);(try clear hfz9_0);(try clear hfz9_1);(try clear hfz9_2);(try clear hfz9_3)
  obtain ⟨kq, x26_3, rfl, HA, HJ3, BK101, HB⟩ := hcut
  cases kq with
  | zero => exact absurd HA.out (by simp [hanaperref05_rest.j0])
  | succ kj3 =>
   have H := HA.out
   clear HA
   simp only [hanaperref05_rest.j0] at H
   by_cases c11 : x26_3 = true
   ·subst c11
    have H1 : (some (-1)) = some r := by rw [if_pos rfl] at H; exact H
    clear H
    have H := H1
    clear H1
    obtain rfl := Option.some.inj H
    go_wp2
    go_ret
    exact ⟨by first | rfl | (simp [errW_none, errW_some] <;> rfl) | (simp [*, errW_none, errW_some] <;> rfl), by repeat (first | (with_reducible first | exact HB.out | apply below_alloc | apply pw_below_drewN | apply below_drew1 | refine below_set ?_ GE101.out) | exact HB.out)⟩
   ·replace c11 := Bool.eq_false_iff.mpr c11
    subst c11
    have H1 : (hanaperref05_rest.l0 kj3 (wrap64 (a1 - 1)) a2 0 a0_0 a0_1 l0_2 l0_3) = some r := by rw [if_neg (show ¬ (false = true) by decide)] at H; exact H
    clear H
    have H := H1
    clear H1
    have H' := Aside0.mk H
    clear H
    go_wp2
    go_loopg [1, 7] kj3 (fun kq v1 v7 w' => ∃ (x1_2 : Int) (x7_2 : Int), v1 = .int .i64 x1_2 ∧ v7 = .int .i64 x7_2 ∧ Aside0 (hanaperref05_rest.l0 kq x1_2 a2 x7_2 a0_0 a0_1 l0_2 l0_3 = some r) ∧ Aside0 (kq ≤ kj3) ∧ Aside0 (w'.heap[gb101]? = some (.cells #[.int .i64 a0_0, .int .u64 a0_1, (.slice A0_2 l0_2.length c0_2), (.slice A0_3 l0_3.length c0_3)] 26 (0, 0))) ∧ Aside0 (Below w.heap.size w w'))
    case atStart => exact ⟨(wrap64 (a1 - 1)), (0), (by first | rfl | (simp; done) | (simp [*]; done)), (by first | rfl | (simp; done) | (simp [*]; done)), H', ⟨Nat.le_refl _⟩, ⟨by (with_reducible repeat (first | refine blk_drewN ?_ _ | refine blk_drew ?_ | refine blk_alloc ?_ _)); exact BK101.out⟩, ⟨by repeat (first | (with_reducible first | exact HB.out | apply below_alloc | apply pw_below_drewN | apply below_drew1 | refine below_set ?_ GE101.out) | exact HB.out)⟩⟩
    case round =>
     clear H'
     (try clear c1);(try clear p2);(try clear c4);(try clear c6);(try clear c6b0);(try clear p6);(try clear c7);(try clear c7b0);(try clear c8);(try clear c8b0);(try clear c11);(try clear hcz10_0);(try clear hcz10_1);(try clear hcz10_2);(try clear hcz10_3);(try clear hcz9_0);(try clear hcz9_1);(try clear hcz9_2);(try clear hcz9_3);(try clear hfz10_0);(try clear hfz10_1);(try clear hfz10_2);(try clear hfz10_3);(try clear hfz9_0);(try clear hfz9_1);(try clear hfz9_2);(try clear hfz9_3);(try clear p2)
     obtain ⟨x1_2, x7_2, rfl, rfl, HA, HK2, BK101, HB⟩ := hrel
     cases gk with
     | zero => exact absurd HA.out (by simp [hanaperref05_rest.l0])
     | succ k2 =>
      have H := HA.out
      clear HA
      simp only [hanaperref05_rest.l0] at H
      by_cases c12 : x7_2 < (l0_3.length : Int)
      ·rw [if_pos c12] at H
       have c12b0 : decide (x7_2 < (l0_3.length : Int)) = true := decide_eq_true c12
       clear c12
       by_cases c13 : x1_2 ≥ 0
       ·rw [if_pos c13] at H
        have c13b0 : decide (0 ≤ x1_2) = true := decide_eq_true c13
        clear c13
        by_cases c14 : 0 ≤ x7_2
        ·rw [if_pos c14] at H
         have c14b0 : decide (0 ≤ x7_2) = true := decide_eq_true c14
         clear c14
         replace H := Option.bind_eq_some_iff.mp H
         obtain ⟨t103, A150, H⟩ := H
         replace H : (hanaperref05_rest.l0 k2 t103 a2 (wrap64 (x7_2 + 1)) a0_0 a0_1 l0_2 l0_3) = some r := H
         have A15 := Aside0.mk A150
         clear A150
         have H' := Aside0.mk H
         clear H
         have hcz16_0 : wr.cell? ⟨gb101, 0, none⟩ = some (.int .i64 a0_0) := (blk_cell BK101.out 0).trans rfl
         have hcz16_1 : wr.cell? ⟨gb101, 1, none⟩ = some (.int .u64 a0_1) := (blk_cell BK101.out 1).trans rfl
         have hcz16_2 : wr.cell? ⟨gb101, 2, none⟩ = some (.slice A0_2 l0_2.length c0_2) := (blk_cell BK101.out 2).trans rfl
         have hcz16_3 : wr.cell? ⟨gb101, 3, none⟩ = some (.slice A0_3 l0_3.length c0_3) := (blk_cell BK101.out 3).trans rfl
         have hfz16_0 := blk_frozen BK101.out 0
         have hfz16_1 := blk_frozen BK101.out 1
         have hfz16_2 := blk_frozen BK101.out 2
         have hfz16_3 := blk_frozen BK101.out 3
         have p102 : 0 ≤ (x7_2 : Int) := of_decide_eq_true (by first | (with_reducible assumption) | assumption)
         have q102 : x7_2 < (l0_3.length : Int) := of_decide_eq_true (by first | (with_reducible assumption) | assumption)
         obtain ⟨ad102, A102_2, c102_2, A102_3, c102_3, e102, hx102_0, hx102_1, hx102_2, hx102_3, hl102_2, hi102_2, hl102_3, hi102_3⟩ := at_T26 HR0_3.out x7_2 p102 q102
         cases e102
         replace hx102_0 := (HB.out.cell (World.block_lt_of_cell? w _ hx102_0)).trans hx102_0
         replace hx102_1 := (HB.out.cell (World.block_lt_of_cell? w _ hx102_1)).trans hx102_1
         replace hx102_2 := (HB.out.cell (World.block_lt_of_cell? w _ hx102_2)).trans hx102_2
         replace hx102_3 := (HB.out.cell (World.block_lt_of_cell? w _ hx102_3)).trans hx102_3
         have HR102_2 := Aside0.mk hi102_2
         have HC102_2 := Aside0.mk hl102_2
         clear hi102_2 hl102_2
         have HR102_3 := Aside0.mk hi102_3
         have HC102_3 := Aside0.mk hl102_3
         clear hi102_3 hl102_3
         replace p102 := eq_true p102
         replace q102 := eq_true q102
         go_wp2_with (first | ((with_reducible refine gate_callee (f := 40) rfl ?_); refine goesL_ (some 48) rfl rfl Try.func40 (by kernel_rfl) rfl #[.agg #[.int .i64 ((rd_T26 l0_3 x7_2).f0), .int .u64 ((rd_T26 l0_3 x7_2).f1), .slice A102_2 ((rd_T26 l0_3 x7_2).f2).length c102_2, .slice A102_3 ((rd_T26 l0_3 x7_2).f3).length c102_3], .int .i64 x1_2, .int .i64 (wrap64 (a2 - 1))] rfl (by (try simp only [List.map_toArray, List.map_cons, List.map_nil]); first | done | rfl | (simp only [List.length_drop, List.length_take]; rfl)) ?_; (with_reducible refine (ih k2 (by have := HJ3.out; have := HK2.out; omega) ((rd_T26 l0_3 x7_2).f0) ((rd_T26 l0_3 x7_2).f1) _ _ ((rd_T26 l0_3 x7_2).f2) _ _ ((rd_T26 l0_3 x7_2).f3) x1_2 (wrap64 (a2 - 1)) t103 _ ?side1 ?side2 ?side3 ?side4 A15.out).mono ?_); (case side1 => repeat (first | exact (Kd.C_below HR102_2.out HB.out) | (with_reducible refine Kd.C_alloc ?_ _) | (with_reducible refine Kd.C_drewN ?_ _) | (with_reducible refine Kd.C_drew ?_))); (case side2 => exact HC102_2.out); (case side3 => repeat (first | exact (Kd.C_below HR102_3.out HB.out) | (with_reducible refine Kd.C_alloc ?_ _) | (with_reducible refine Kd.C_drewN ?_ _) | (with_reducible refine Kd.C_drew ?_))); (case side4 => exact HC102_3.out); rintro e w17 ⟨rfl, hb⟩; refine ⟨_, rfl, ?_⟩; have n0_ := Aside0.mk (blk_below (g := gb101) (o := .cells #[.int .i64 a0_0, .int .u64 a0_1, .slice A0_2 l0_2.length c0_2, .slice (some ad102) l0_3.length c0_3] 26 (0, 0)) (by (with_reducible repeat (first | refine blk_drewN ?_ _ | refine blk_drew ?_ | refine blk_alloc ?_ _)); exact BK101.out) hb); have n1_ := Aside0.mk (below_step (by repeat (first | (with_reducible first | exact HB.out | apply below_alloc | apply pw_below_drewN | apply below_drew1 | refine below_set ?_ GE101.out) | exact HB.out)) hb); clear BK101; clear HB; have BK101 := n0_; have HB := n1_; clear n0_ n1_; (try clear hb); (try clear hb2); (try clear hk); (try clear hi)))
         go_roundg k2
         case measure => have := HJ3.out; have := HK2.out; omega
         case rel => exact ⟨(t103), (wrap64 (x7_2 + 1)), (by first | rfl | (simp; done) | (simp [*]; done)), (by first | rfl | (simp; done) | (simp [*]; done)), H', ⟨by have := HJ3.out; have := HK2.out; omega⟩, ⟨by (with_reducible repeat (first | refine blk_drewN ?_ _ | refine blk_drew ?_ | refine blk_alloc ?_ _)); exact BK101.out⟩, ⟨by repeat (first | (with_reducible first | exact HB.out | apply below_alloc | apply pw_below_drewN | apply below_drew1 | refine below_set ?_ GE101.out) | exact HB.out)⟩⟩
        ·rw [if_neg c14] at H
         exact absurd H (by simp)
       ·rw [if_neg c13] at H
        have c13b0 : decide (0 ≤ x1_2) = false := decide_eq_false c13
        clear c13
        obtain rfl := Option.some.inj H
        have hcz18_0 : wr.cell? ⟨gb101, 0, none⟩ = some (.int .i64 a0_0) := (blk_cell BK101.out 0).trans rfl
        have hcz18_1 : wr.cell? ⟨gb101, 1, none⟩ = some (.int .u64 a0_1) := (blk_cell BK101.out 1).trans rfl
        have hcz18_2 : wr.cell? ⟨gb101, 2, none⟩ = some (.slice A0_2 l0_2.length c0_2) := (blk_cell BK101.out 2).trans rfl
        have hcz18_3 : wr.cell? ⟨gb101, 3, none⟩ = some (.slice A0_3 l0_3.length c0_3) := (blk_cell BK101.out 3).trans rfl
        have hfz18_0 := blk_frozen BK101.out 0
        have hfz18_1 := blk_frozen BK101.out 1
        have hfz18_2 := blk_frozen BK101.out 2
        have hfz18_3 := blk_frozen BK101.out 3
        go_wp2
        go_ret
        exact ⟨by first | rfl | (simp [errW_none, errW_some] <;> rfl) | (simp [*, errW_none, errW_some] <;> rfl), by repeat (first | (with_reducible first | exact HB.out | apply below_alloc | apply pw_below_drewN | apply below_drew1 | refine below_set ?_ GE101.out) | exact HB.out)⟩
      ·rw [if_neg c12] at H
       have c12b0 : decide (x7_2 < (l0_3.length : Int)) = false := decide_eq_false c12
       clear c12
       obtain rfl := Option.some.inj H
       have hcz19_0 : wr.cell? ⟨gb101, 0, none⟩ = some (.int .i64 a0_0) := (blk_cell BK101.out 0).trans rfl
       have hcz19_1 : wr.cell? ⟨gb101, 1, none⟩ = some (.int .u64 a0_1) := (blk_cell BK101.out 1).trans rfl
       have hcz19_2 : wr.cell? ⟨gb101, 2, none⟩ = some (.slice A0_2 l0_2.length c0_2) := (blk_cell BK101.out 2).trans rfl
       have hcz19_3 : wr.cell? ⟨gb101, 3, none⟩ = some (.slice A0_3 l0_3.length c0_3) := (blk_cell BK101.out 3).trans rfl
       have hfz19_0 := blk_frozen BK101.out 0
       have hfz19_1 := blk_frozen BK101.out 1
       have hfz19_2 := blk_frozen BK101.out 2
       have hfz19_3 := blk_frozen BK101.out 3
       go_wp2
       go_ret
       exact ⟨by first | rfl | (simp [errW_none, errW_some] <;> rfl) | (simp [*, errW_none, errW_some] <;> rfl), by repeat (first | (with_reducible first | exact HB.out | apply below_alloc | apply pw_below_drewN | apply below_drew1 | refine below_set ?_ GE101.out) | exact HB.out)⟩

end Go.Proofs.Ytgohmganimamcaa.PZ
-- printed for this claim by a program (pall.sh)
-- mended by fixpz.py
namespace Go.Proofs.Ytgohmganimamcaa.PZ
open Go.RowKit Go.Proofs.YtgohmganimamcaaW.PrintWords Go.Proofs.YtgohmganimamcaaW.PrintLast Go.Proofs.YtgohmganimamcaaW.PrintMore
attribute [local go_sem] max2_int min2_int max_two min_two max_three min_three max_four min_four   -- for this text's walks alone
set_option linter.unusedVariables false
set_option linter.unusedSimpArgs false

/-! ### hanaperref05_Small: function 10 -/
def hanaperref05_Small.f (k : Nat) (a0_0 : Int) (a0_1 : Int) (l0_2 : List Int) (l0_3 : List (S26)) (a1 : Int) : Option (Bool) := (hanaperref05_rest.f k a0_0 a0_1 l0_2 l0_3 a1 40).bind fun t102 => (some (decide (t102 ≥ 0)))
set_option maxHeartbeats 8000000 in
set_option maxRecDepth 100000 in
theorem hanaperref05_Small.calls (k : Nat) (a0_0 : Int) (a0_1 : Int) (A0_2 : Option Addr) (c0_2 : Nat) (l0_2 : List Int) (A0_3 : Option Addr) (c0_3 : Nat) (l0_3 : List (S26)) (a1 : Int) (r : Bool) (w : World) (hr0_2 : Kd.C (Kd.int .u8) w A0_2 l0_2.length l0_2) (hc0_2 : l0_2.length ≤ c0_2) (hr0_3 : Kd.C k26 w A0_3 l0_3.length l0_3) (hc0_3 : l0_3.length ≤ c0_3) (h : hanaperref05_Small.f k a0_0 a0_1 l0_2 l0_3 a1 = some r) :
  Calls Try.prog 10 #[.agg #[.int .i64 a0_0, .int .u64 a0_1, .slice A0_2 l0_2.length c0_2, .slice A0_3 l0_3.length c0_3], .int .i64 a1] w fun e w' => e = .returned (.bool r) ∧ Below w.heap.size w w' := by
 have hu26 := Try.underlying26
 have HR0_2 := Aside0.mk hr0_2
 have HC0_2 := Aside0.mk hc0_2
 clear hr0_2 hc0_2
 have HR0_3 := Aside0.mk hr0_3
 have HC0_3 := Aside0.mk hc0_3
 clear hr0_3 hc0_3
 have HB := Aside0.mk (Below.refl w.heap.size w)
 have H : ((hanaperref05_rest.f k a0_0 a0_1 l0_2 l0_3 a1 40).bind fun t102 => (some (decide (t102 ≥ 0)))) = some r := h
 clear h
 replace H := Option.bind_eq_some_iff.mp H
 obtain ⟨t102, A30, H⟩ := H
 replace H : (some (decide (t102 ≥ 0))) = some r := H
 have A3 := Aside0.mk A30
 clear A30
 obtain rfl := Option.some.inj H
 go_enter Try.func10, Try.ntmps10
 go_wp2_with (first | ((with_reducible refine gate_dst (N := 2) rfl ?_); refine box_event ?hg (N := 2) ?hd (cs := #[.int .i64 a0_0, .int .u64 a0_1, .slice A0_2 l0_2.length c0_2, .slice A0_3 l0_3.length c0_3]) (t := 26) ?hr ?_; (case hd => rfl); (case hg => rfl); (case hr => first | (go_simp; done) | (go_simp; rfl)); intro gb101 hg w4 hbox hb; have n0_ := Aside0.mk (below_step (by repeat (first | (with_reducible first | exact HB.out | apply below_alloc | apply pw_below_drewN | apply below_drew1) | exact HB.out)) hb); have n1_ := Aside0.mk (hbox); have n2_ := Aside0.mk ((by rw [hg]; exact (below_size (by repeat (first | (with_reducible first | exact HB.out | apply below_alloc | apply pw_below_drewN | apply below_drew1) | exact HB.out))) : w.heap.size ≤ gb101)); have n3_ := Aside0.mk ((by rw [hg]; exact (below_size (by repeat (first | (with_reducible first | exact HB.out | apply below_alloc | apply pw_below_drewN | apply below_drew1) | exact HB.out))) : w.heap.size ≤ gb101)); clear HB; have HB := n0_; have BK101 := n1_; have GW101 := n2_; have GE101 := n3_; clear n0_ n1_ n2_ n3_; clear hb hbox hg; have hcz5_0 : w4.cell? ⟨gb101, 0, none⟩ = some (.int .i64 a0_0) := (blk_cell BK101.out 0).trans rfl; have hcz5_1 : w4.cell? ⟨gb101, 1, none⟩ = some (.int .u64 a0_1) := (blk_cell BK101.out 1).trans rfl; have hcz5_2 : w4.cell? ⟨gb101, 2, none⟩ = some (.slice A0_2 l0_2.length c0_2) := (blk_cell BK101.out 2).trans rfl; have hcz5_3 : w4.cell? ⟨gb101, 3, none⟩ = some (.slice A0_3 l0_3.length c0_3) := (blk_cell BK101.out 3).trans rfl; have hfz5_0 := blk_frozen BK101.out 0; have hfz5_1 := blk_frozen BK101.out 1; have hfz5_2 := blk_frozen BK101.out 2; have hfz5_3 := blk_frozen BK101.out 3) | ((with_reducible refine gate_callee (f := 40) rfl ?_); refine goesL_ (some 7) rfl rfl Try.func40 (by kernel_rfl) rfl #[.agg #[.int .i64 a0_0, .int .u64 a0_1, .slice A0_2 l0_2.length c0_2, .slice A0_3 l0_3.length c0_3], .int .i64 a1, .int .i64 40] rfl (by (try simp only [List.map_toArray, List.map_cons, List.map_nil]); first | done | rfl | (simp only [List.length_drop, List.length_take]; rfl)) ?_; (with_reducible refine (hanaperref05_rest.calls k a0_0 a0_1 _ _ l0_2 _ _ l0_3 a1 40 t102 _ ?side1 ?side2 ?side3 ?side4 A3.out).mono ?_); (case side1 => repeat (first | exact (Kd.C_below HR0_2.out HB.out) | (with_reducible refine Kd.C_alloc ?_ _) | (with_reducible refine Kd.C_drewN ?_ _) | (with_reducible refine Kd.C_drew ?_))); (case side2 => exact HC0_2.out); (case side3 => repeat (first | exact (Kd.C_below HR0_3.out HB.out) | (with_reducible refine Kd.C_alloc ?_ _) | (with_reducible refine Kd.C_drewN ?_ _) | (with_reducible refine Kd.C_drew ?_))); (case side4 => exact HC0_3.out); rintro e w6 ⟨rfl, hb⟩; refine ⟨_, rfl, ?_⟩; have n0_ := Aside0.mk (blk_below (g := gb101) (o := .cells #[.int .i64 a0_0, .int .u64 a0_1, .slice A0_2 l0_2.length c0_2, .slice A0_3 l0_3.length c0_3] 26 (0, 0)) (by (with_reducible repeat (first | refine blk_drewN ?_ _ | refine blk_drew ?_ | refine blk_alloc ?_ _)); exact BK101.out) hb); have n1_ := Aside0.mk (below_step (by repeat (first | (with_reducible first | exact HB.out | apply below_alloc | apply pw_below_drewN | apply below_drew1 | refine below_set ?_ GE101.out) | exact HB.out)) hb); clear BK101; clear HB; have BK101 := n0_; have HB := n1_; clear n0_ n1_; (try clear hb); (try clear hb2); (try clear hk); (try clear hi)))
 go_ret
 exact ⟨by first | rfl | (simp [errW_none, errW_some] <;> rfl) | (simp [*, errW_none, errW_some] <;> rfl), by repeat (first | (with_reducible first | exact HB.out | apply below_alloc | apply pw_below_drewN | apply below_drew1 | refine below_set ?_ GE101.out) | exact HB.out)⟩

end Go.Proofs.Ytgohmganimamcaa.PZ
/- What the laws of layer 5 share. -/
namespace Go.Proofs.Ytgohmganimamcaa.Term
set_option linter.unusedVariables false
set_option linter.unusedSimpArgs false
open Go.RowKit Go.Proofs.Ytgohmganimamcaa.Base Go.Proofs.Ytgohmganimamcaa.TlvPlain Go.Proofs.Ytgohmganimamcaa.Lo Go.Proofs.Ytgohmganimamcaa.RdPlain Go.Proofs.Ytgohmganimamcaa.Aid Go.Proofs.Ytgohmganimamcaa.PZ Go.Proofs.YtgohmganimamcaaW.PrintWords Go.Proofs.YtgohmganimamcaaW.PrintLast Go.Proofs.YtgohmganimamcaaW.PrintMore
end Go.Proofs.Ytgohmganimamcaa.Term
