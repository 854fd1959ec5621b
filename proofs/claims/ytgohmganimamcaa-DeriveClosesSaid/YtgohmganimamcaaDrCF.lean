/- Own and printed texts, laid together. -/
import Derived.Test.YtgohmganimamcaaDrCE
import Derived.ScopeJumps
import Derived.WalkMore
import Derived.Deep.RegionHeld
import Derived.Deep.LoopGhost
import Derived.Test.YtgohmganimamcaaDrCD
import Derived.Test.YtgohmganimamcaaDrCC
import Derived.Lib.UnsafeStr
/- derive.made walked: is a term there, or put together of such as are? -/
namespace Go.Proofs.Ytgohmganimamcaa.Term
set_option linter.unusedVariables false
set_option linter.unusedSimpArgs false
open Go.RowKit Go.Proofs.Ytgohmganimamcaa.Base Go.Proofs.Ytgohmganimamcaa.TlvPlain Go.Proofs.Ytgohmganimamcaa.Lo Go.Proofs.Ytgohmganimamcaa.RdPlain Go.Proofs.Ytgohmganimamcaa.Aid Go.Proofs.Ytgohmganimamcaa.PZ Go.Proofs.YtgohmganimamcaaW.PrintWords Go.Proofs.YtgohmganimamcaaW.PrintLast Go.Proofs.YtgohmganimamcaaW.PrintMore
def hasT (l : List ST) (t : ST) : Bool := l.any (fun x => eqT x t)
mutual
def madeT (l : List ST) : ST → Bool
  | ⟨a, n, d, ks⟩ => hasT l ⟨a, n, d, ks⟩ || ((a == 4 || (a == 5 || a == 6)) && madeTs l ks)
def madeTs (l : List ST) : List ST → Bool
  | [] => true
  | k :: ks => madeT l k && madeTs l ks
end
theorem madeT_eq (l : List ST) (t : ST) : madeT l t = (hasT l t || ((t.f0 == 4 || (t.f0 == 5 || t.f0 == 6)) && madeTs l t.f3)) := by cases t; rw [madeT]
theorem madeTs_any (l : List ST) : ∀ ks : List ST, madeTs l ks = !(ks.any (fun k => !madeT l k))
  | [] => by rw [madeTs]; rfl
  | k :: ks => by rw [madeTs, madeTs_any l ks, List.any_cons]; cases madeT l k <;> simp
def MadeC (l : List ST) (t : ST) : Prop := ∀ A c T2 k2 T3 k3 (W : World), Kd.C k26 W A l.length l → l.length ≤ c → RowsT W t T2 k2 T3 k3 →
  Calls Try.prog 61 #[.slice A l.length c, .agg #[.int .i64 t.f0, .int .u64 t.f1, .slice T2 t.f2.length k2, .slice T3 t.f3.length k3]] W fun e w' => e = .returned (.bool (madeT l t)) ∧ Below W.heap.size W w'
set_option maxHeartbeats 4000000 in
set_option maxRecDepth 100000 in
theorem made1_c {l : List ST} {t : ST} (hm : MadeC l t) (g : Nat) (A : Option Addr) (c : Nat) (T2 : Option Addr) (k2 : Nat) (T3 : Option Addr) (k3 : Nat) (W : World) (hr : Kd.C k26 W A l.length l) (hc : l.length ≤ c) (h : RowsT W t T2 k2 T3 k3) (hb : Blk W g 24 #[.slice A l.length c]) :
    Calls Try.prog 78 #[.agg #[.int .i64 t.f0, .int .u64 t.f1, .slice T2 t.f2.length k2, .slice T3 t.f3.length k3], .pointer (some ⟨g, 0, none⟩)] W fun e w' => e = .returned (.bool (!madeT l t)) ∧ Below W.heap.size W w' := by
  have hb0 := below_alloc (Below.refl W.heap.size W) (.cells #[.int .i64 t.f0, .int .u64 t.f1, .slice T2 t.f2.length k2, .slice T3 t.f3.length k3] 26)
  have HB := Aside0.mk hb0
  have HC := Aside0.mk (hm A c T2 k2 T3 k3 _ (Kd.C_below hr hb0) hc (h.below hb0))
  have H0 := Aside0.mk (show Blk (W.alloc (.cells #[.int .i64 t.f0, .int .u64 t.f1, .slice T2 t.f2.length k2, .slice T3 t.f3.length k3] 26)) W.heap.size 26 #[.int .i64 t.f0, .int .u64 t.f1, .slice T2 t.f2.length k2, .slice T3 t.f3.length k3] from blk_new _ _)
  have HG := Aside0.mk (hb.below hb0)
  have hu26 := Try.underlying26
  obtain ⟨x0, x1, x2, x3⟩ := four_cells H0.out
  have y0 := HG.out.cell 0
  simp only [List.getElem?_toArray, List.getElem?_cons_zero] at y0
  clear hm hr h hb hb0
  go_enter Try.func78, Try.ntmps78
  go_wp2_with (go_at_call 61; refine HC.out.mono ?_; rintro e w1 ⟨rfl, hb⟩; have HB1 := Aside0.mk (below_step HB.out hb); clear hb)
  go_ret
  exact ⟨rfl, HB1.out⟩
set_option maxHeartbeats 4000000 in
set_option maxRecDepth 100000 in
theorem idxm_c {l : List ST} (ks : List ST) (hk : ∀ k ∈ ks, MadeC l k) (g : Nat) (A : Option Addr) (c : Nat) (K : Option Addr) (d : Nat) (W : World) (hr : Kd.C k26 W A l.length l) (hc : l.length ≤ c) (hkr : Kd.C k26 W K ks.length ks) (hd : ks.length ≤ d) (hb : Blk W g 24 #[.slice A l.length c]) :
    Calls Try.prog 84 #[.slice K ks.length d, .func (.func 78) #[] #[.pointer (some ⟨g, 0, none⟩)]] W fun e w' => ∃ r : Int, e = .returned (.int .i64 r) ∧ decide (r ≥ 0) = ks.any (fun k => !madeT l k) ∧ Below W.heap.size W w' := by
  have HR := Aside0.mk hkr
  have HL := Aside0.mk hk
  have HTR := Aside0.mk (And.intro hr hc)
  have HK := Aside0.mk hb
  have HM := Aside0.mk hkr.2.1
  have hu24 := Try.underlying24
  have hu26 := Try.underlying26
  clear hr hk hkr hb
  go_enter Try.func84, Try.ntmps84
  go_wp2_with (fail)
  go_loopg [8] ks.length (fun gf s8 wx => ∃ (i : Nat), s8 = .int .i64 (i : Int) ∧ i + gf = ks.length ∧ (ks.take i).any (fun k => !madeT l k) = false ∧ Below W.heap.size W wx)
  case atStart => exact ⟨0, rfl, by omega, rfl, Below.refl _ _⟩
  case round =>
    obtain ⟨i, rfl, hi, hf, hbl⟩ := hrel
    have HQ := Aside0.mk hi
    have HF := Aside0.mk hf
    have HB := Aside0.mk hbl
    clear hi hf hbl
    by_cases hlt : i < ks.length
    · have hl1 : decide ((i : Int) < (ks.length : Int)) = true := decide_eq_true (by omega)
      have hw1 : wrap64 ((i : Int) + 1) = ((i + 1 : Nat) : Int) := by rw [Aid.w64 (by omega) (by have := HM.out; omega)]; omega
      obtain ⟨ad, B2, d2, B3, d3, rfl, hx0, hx1, hx2, hx3, hl2, hr2, hl3, hr3⟩ := at_T26 HR.out (i : Int) (by omega) (by omega)
      rw [rd_at ks i hlt] at hx0 hx1 hx2 hx3 hl2 hr2 hl3 hr3
      have hbm := HB.out
      replace hx0 := (hbm.cell (World.block_lt_of_cell? _ _ hx0)).trans hx0
      replace hx1 := (hbm.cell (World.block_lt_of_cell? _ _ hx1)).trans hx1
      replace hx2 := (hbm.cell (World.block_lt_of_cell? _ _ hx2)).trans hx2
      replace hx3 := (hbm.cell (World.block_lt_of_cell? _ _ hx3)).trans hx3
      have HC := Aside0.mk (made1_c (HL.out ks[i] (List.getElem_mem hlt)) g A c B2 d2 B3 d3 wr (Kd.C_below HTR.out.1 hbm) HTR.out.2 (RowsT.below (⟨⟨hl2, hr2⟩, hl3, hr3⟩ : RowsT W ks[i] B2 d2 B3 d3) hbm) (HK.out.below hbm))
      have HTA := Aside0.mk (take_any (f := fun k => !madeT l k) ks i hlt)
      have HAL := Aside0.mk (show ks.any (fun k => !madeT l k) = ((ks.take (i + 1)).any (fun k => !madeT l k) || (ks.drop (i + 1)).any (fun k => !madeT l k)) by rw [← List.any_append, List.take_append_drop])
      simp only [Int.toNat_natCast] at hx0 hx1 hx2 hx3
      obtain ⟨y, hy⟩ : ∃ y, ks[i] = y := ⟨_, rfl⟩
      rw [hy] at hx0 hx1 hx2 hx3 HC HTA
      clear hbm hl2 hr2 hl3 hr3 hy
      have p1 : (0 : Int) ≤ (i : Int) := by omega
      have p2 : (i : Int) < (ks.length : Int) := by omega
      clear hlt
      cases he : madeT l y with
      | false =>
        rw [he] at HC HTA
        clear he
        go_wp2_with (go_at_call 78; refine HC.out.mono ?_; rintro e w1 ⟨rfl, hb⟩; have HB1 := Aside0.mk (below_step HB.out hb); clear hb)
        go_ret
        refine ⟨_, rfl, ?_, HB1.out⟩
        rw [HAL.out, HTA.out, decide_eq_true (by omega)]
        simp
      | true =>
        rw [he] at HC HTA
        clear he
        go_wp2_with (go_at_call 78; refine HC.out.mono ?_; rintro e w1 ⟨rfl, hb⟩; have HB1 := Aside0.mk (below_step HB.out hb); clear hb)
        go_roundg (ks.length - (i + 1))
        case measure => have := HQ.out; omega
        case rel => exact ⟨i + 1, by first | rfl | rw [hw1], by omega, by rw [HTA.out, HF.out]; rfl, HB1.out⟩
    · have hl1 : decide ((i : Int) < (ks.length : Int)) = false := decide_eq_false (by omega)
      have HE := Aside0.mk (show ks.any (fun k => !madeT l k) = false by have h := HF.out; rw [List.take_of_length_le (by omega)] at h; exact h)
      go_wp2
      go_ret
      exact ⟨_, rfl, by rw [HE.out]; rfl, HB.out⟩
set_option maxHeartbeats 4000000 in
set_option maxRecDepth 100000 in
theorem anym_c {l : List ST} (ks : List ST) (hk : ∀ k ∈ ks, MadeC l k) (g : Nat) (A : Option Addr) (c : Nat) (K : Option Addr) (d : Nat) (W : World) (hr : Kd.C k26 W A l.length l) (hc : l.length ≤ c) (hkr : Kd.C k26 W K ks.length ks) (hd : ks.length ≤ d) (hb : Blk W g 24 #[.slice A l.length c]) :
    Calls Try.prog 76 #[.slice K ks.length d, .func (.func 78) #[] #[.pointer (some ⟨g, 0, none⟩)]] W fun e w' => e = .returned (.bool (!madeTs l ks)) ∧ Below W.heap.size W w' := by
  have HC := Aside0.mk (idxm_c ks hk g A c K d W hr hc hkr hd hb)
  have HA := Aside0.mk (madeTs_any l ks)
  clear hr hk hkr hb
  go_enter Try.func76, Try.ntmps76
  go_wp2_with (go_at_call 84; refine HC.out.mono ?_; rintro e w1 ⟨r, rfl, hr, hb⟩; have HB1 := Aside0.mk hb; have HRR := Aside0.mk hr; clear hb hr)
  go_ret
  exact ⟨by rw [HA.out, Bool.not_not, ← HRR.out]; rfl, HB1.out⟩
theorem second_obj (w : World) (a b : Obj) : ((w.alloc a).alloc b).heap[w.heap.size + 1]? = some b := by
  have h := blk_new (w.alloc a) b
  simpa using h
set_option maxHeartbeats 8000000 in
set_option maxRecDepth 100000 in
theorem made_c {l : List ST} (hl : ∀ x ∈ l, wfT x) : ∀ (n : Nat) (t : ST), SizeOf.sizeOf t < n → wfT t → MadeC l t := by
  intro n
  induction n with
  | zero => intro t h; exact absurd h (by omega)
  | succ n ih =>
    intro t hn ht A c T2 k2 T3 k3 W hr hc htr
    have hk : ∀ k ∈ t.f3, MadeC l k := fun k hk => ih k (by
      have h1 := List.sizeOf_lt_of_mem hk
      have h2 : SizeOf.sizeOf t.f3 < SizeOf.sizeOf t := by cases t; simp; omega
      omega) (((wfT_eq t).1 ht).2.2 k hk)
    have hb0 : Below W.heap.size W ((W.alloc (.cells #[.slice A l.length c] 24)).alloc (.cells #[.int .i64 t.f0, .int .u64 t.f1, .slice T2 t.f2.length k2, .slice T3 t.f3.length k3] 26)) := below_alloc (below_alloc (Below.refl _ _) _) _
    have HK := Aside0.mk hk
    have HCC := Aside0.mk hc
    have HB := Aside0.mk hb0
    have HC := Aside0.mk (show Blk ((W.alloc (.cells #[.slice A l.length c] 24)).alloc (.cells #[.int .i64 t.f0, .int .u64 t.f1, .slice T2 t.f2.length k2, .slice T3 t.f3.length k3] 26)) W.heap.size 24 #[.slice A l.length c] from Blk.alloc (show Blk (W.alloc (.cells #[.slice A l.length c] 24)) W.heap.size 24 #[.slice A l.length c] from blk_new _ _) _)
    have HT := Aside0.mk (show Blk ((W.alloc (.cells #[.slice A l.length c] 24)).alloc (.cells #[.int .i64 t.f0, .int .u64 t.f1, .slice T2 t.f2.length k2, .slice T3 t.f3.length k3] 26)) (W.heap.size + 1) 26 #[.int .i64 t.f0, .int .u64 t.f1, .slice T2 t.f2.length k2, .slice T3 t.f3.length k3] from second_obj _ _ _)
    have HR := Aside0.mk (Kd.C_below hr hb0)
    have HTR := Aside0.mk (htr.below hb0)
    have HH := Aside0.mk (has_c l hl ht A c T2 k2 T3 k3 _ (Kd.C_below hr hb0) hc (htr.below hb0))
    have HE := Aside0.mk (madeT_eq l t)
    have hu26 := Try.underlying26
    have hu24 := Try.underlying24
    have y0 := HC.out.cell 0
    obtain ⟨t0, t1, t2, t3⟩ := four_cells HT.out
    simp only [List.getElem?_toArray, List.getElem?_cons_zero] at y0
    obtain ⟨mb, hmb⟩ : ∃ b, madeT l t = b := ⟨_, rfl⟩
    rw [hmb] at HE ⊢
    clear hr htr hb0 ih hn ht hk hmb
    cases hq : hasT l t with
    | true =>
      unfold hasT at hq
      rw [hq] at HH
      have HE2 := HE.out
      unfold hasT at HE2
      rw [hq, Bool.true_or] at HE2
      subst HE2
      go_enter Try.func61, Try.ntmps61
      go_wp2_with (go_at_call 57; refine HH.out.mono ?_; rintro e w1 ⟨rfl, hb⟩; have HB1 := Aside0.mk (below_step HB.out hb); have HC1 := Aside0.mk (HC.out.below hb); have HT1 := Aside0.mk (HT.out.below hb); have HR1 := Aside0.mk (Kd.C_below HR.out hb); have HTR1 := Aside0.mk (HTR.out.below hb); obtain ⟨x0, x1, x2, x3⟩ := four_cells HT1.out; clear hb)
      go_ret
      exact ⟨rfl, HB1.out⟩
    | false =>
      have HE2 := HE.out
      rw [hq, Bool.false_or] at HE2
      unfold hasT at hq
      rw [hq] at HH
      clear hq HE
      by_cases c4 : t.f0 = 4
      · have z4 : (t.f0 == 4) = true := by simp [c4]
        rw [z4, Bool.true_or, Bool.true_and] at HE2
        subst HE2
        clear c4
        go_enter Try.func61, Try.ntmps61
        go_wp2_with (first
          | (go_at_call 57; refine HH.out.mono ?_; rintro e w1 ⟨rfl, hb⟩; have HB1 := Aside0.mk (below_step HB.out hb); have HC1 := Aside0.mk (HC.out.below hb); have HT1 := Aside0.mk (HT.out.below hb); have HR1 := Aside0.mk (Kd.C_below HR.out hb); have HTR1 := Aside0.mk (HTR.out.below hb); obtain ⟨x0, x1, x2, x3⟩ := four_cells HT1.out; clear hb)
          | (go_at_call 76; refine (anym_c t.f3 HK.out W.heap.size A c T3 k3 _ HR1.out HCC.out HTR1.out.2.2 HTR1.out.2.1 HC1.out).mono ?_; rintro e w2 ⟨rfl, hb⟩; have HB2 := Aside0.mk (below_step HB1.out hb); clear hb))
        go_ret
        exact ⟨by simp, HB2.out⟩
      · have z4 : (t.f0 == 4) = false := by simp [c4]
        by_cases c5 : t.f0 = 5
        · have z5 : (t.f0 == 5) = true := by simp [c5]
          rw [z4, z5, Bool.false_or, Bool.true_or, Bool.true_and] at HE2
          subst HE2
          clear c4 c5
          go_enter Try.func61, Try.ntmps61
          go_wp2_with (first
            | (go_at_call 57; refine HH.out.mono ?_; rintro e w1 ⟨rfl, hb⟩; have HB1 := Aside0.mk (below_step HB.out hb); have HC1 := Aside0.mk (HC.out.below hb); have HT1 := Aside0.mk (HT.out.below hb); have HR1 := Aside0.mk (Kd.C_below HR.out hb); have HTR1 := Aside0.mk (HTR.out.below hb); obtain ⟨x0, x1, x2, x3⟩ := four_cells HT1.out; clear hb)
            | (go_at_call 76; refine (anym_c t.f3 HK.out W.heap.size A c T3 k3 _ HR1.out HCC.out HTR1.out.2.2 HTR1.out.2.1 HC1.out).mono ?_; rintro e w2 ⟨rfl, hb⟩; have HB2 := Aside0.mk (below_step HB1.out hb); clear hb))
          go_ret
          exact ⟨by simp, HB2.out⟩
        · have z5 : (t.f0 == 5) = false := by simp [c5]
          by_cases c6 : t.f0 = 6
          · have z6 : (t.f0 == 6) = true := by simp [c6]
            rw [z4, z5, z6, Bool.false_or, Bool.false_or, Bool.true_and] at HE2
            subst HE2
            clear c4 c5 c6
            go_enter Try.func61, Try.ntmps61
            go_wp2_with (first
              | (go_at_call 57; refine HH.out.mono ?_; rintro e w1 ⟨rfl, hb⟩; have HB1 := Aside0.mk (below_step HB.out hb); have HC1 := Aside0.mk (HC.out.below hb); have HT1 := Aside0.mk (HT.out.below hb); have HR1 := Aside0.mk (Kd.C_below HR.out hb); have HTR1 := Aside0.mk (HTR.out.below hb); obtain ⟨x0, x1, x2, x3⟩ := four_cells HT1.out; clear hb)
              | (go_at_call 76; refine (anym_c t.f3 HK.out W.heap.size A c T3 k3 _ HR1.out HCC.out HTR1.out.2.2 HTR1.out.2.1 HC1.out).mono ?_; rintro e w2 ⟨rfl, hb⟩; have HB2 := Aside0.mk (below_step HB1.out hb); clear hb))
            go_ret
            exact ⟨by simp, HB2.out⟩
          · have z6 : (t.f0 == 6) = false := by simp [c6]
            rw [z4, z5, z6, Bool.false_or, Bool.false_or, Bool.false_and] at HE2
            subst HE2
            clear c4 c5 c6
            go_enter Try.func61, Try.ntmps61
            go_wp2_with (go_at_call 57; refine HH.out.mono ?_; rintro e w1 ⟨rfl, hb⟩; have HB1 := Aside0.mk (below_step HB.out hb); have HC1 := Aside0.mk (HC.out.below hb); have HT1 := Aside0.mk (HT.out.below hb); have HR1 := Aside0.mk (Kd.C_below HR.out hb); have HTR1 := Aside0.mk (HTR.out.below hb); obtain ⟨x0, x1, x2, x3⟩ := four_cells HT1.out; clear hb)
            go_ret
            exact ⟨rfl, HB1.out⟩
end Go.Proofs.Ytgohmganimamcaa.Term
/- derive: what the closure is, in plain: its invariants and its end. -/
namespace Go.Proofs.Ytgohmganimamcaa.Term
set_option linter.unusedVariables false
set_option linter.unusedSimpArgs false
open Go.RowKit Go.Proofs.Ytgohmganimamcaa.Base Go.Proofs.Ytgohmganimamcaa.TlvPlain Go.Proofs.Ytgohmganimamcaa.Lo Go.Proofs.Ytgohmganimamcaa.RdPlain Go.Proofs.Ytgohmganimamcaa.Aid Go.Proofs.Ytgohmganimamcaa.PZ Go.Proofs.YtgohmganimamcaaW.PrintWords Go.Proofs.YtgohmganimamcaaW.PrintLast Go.Proofs.YtgohmganimamcaaW.PrintMore
/-- What element i gives, put behind the others. -/
def stepD (out : List ST) (i : Nat) : List ST := (giveL out (out.getD i z_T)).foldl putD out
/-- One pass over the terms found so far. -/
def passD (xs : List ST) : List ST := (List.range xs.length).foldl stepD xs
def closeN : Nat → List ST → List ST
  | 0, xs => xs
  | n + 1, xs => if (passD xs).length > xs.length then closeN n (passD xs) else passD xs
/-- The closure. -/
def closeD (l : List ST) : List ST := closeN 2001 (l.foldl putD [])
/-- A universe that is closed under what terms give. -/
def UnivD (U : List ST) : Prop := ∀ y ∈ U, wfT y ∧ (y.f0 = 5 → 2 ≤ y.f3.length) ∧ ∀ k ∈ y.f3, k ∈ U
/-- No term twice, and all out of the universe. -/
def DI (U : List ST) (xs : List ST) : Prop := xs.Nodup ∧ ∀ x ∈ xs, x ∈ U
theorem nodup_le : ∀ (xs U : List ST), xs.Nodup → (∀ x ∈ xs, x ∈ U) → xs.length ≤ U.length
  | [], _, _, _ => Nat.zero_le _
  | x :: xs, U, hn, h => by
    obtain ⟨h1, h2⟩ := List.nodup_cons.1 hn
    obtain ⟨a, b, rfl⟩ := List.append_of_mem (h x (by simp))
    have := nodup_le xs (a ++ b) h2 (fun y hy => by
      have h3 := h y (by simp [hy])
      have hne : y ≠ x := fun e => h1 (e ▸ hy)
      simp only [List.mem_append, List.mem_cons] at h3 ⊢
      rcases h3 with h3 | h3 | h3
      · exact .inl h3
      · exact absurd h3 hne
      · exact .inr h3)
    simp only [List.length_append, List.length_cons] at this ⊢
    omega
theorem hasT_iff (xs : List ST) (t : ST) : xs.any (fun x => eqT x t) = true ↔ t ∈ xs := by
  rw [List.any_eq_true]
  constructor
  · rintro ⟨x, hx, he⟩
    rw [(eqT_iff _ _).1 he] at hx
    exact hx
  · intro h
    exact ⟨t, h, eqT_refl t⟩
theorem putD_mem (xs : List ST) (t y : ST) : y ∈ putD xs t ↔ y ∈ xs ∨ y = t := by
  unfold putD
  split
  · next h =>
    have := (hasT_iff xs t).1 h
    constructor
    · exact .inl
    · rintro (h | rfl)
      · exact h
      · exact this
  · simp [List.mem_append]
theorem putD_di {U xs : List ST} {t : ST} (h : DI U xs) (ht : t ∈ U) : DI U (putD xs t) := by
  refine ⟨?_, fun y hy => ?_⟩
  · unfold putD
    split
    · exact h.1
    · next hn =>
      rw [List.nodup_append]
      refine ⟨h.1, by simp, fun a ha b hb => ?_⟩
      rw [List.mem_singleton] at hb
      subst hb
      rintro rfl
      exact hn ((hasT_iff xs a).2 ha)
  · rcases (putD_mem xs t y).1 hy with hy | rfl
    · exact h.2 y hy
    · exact ht
theorem putD_pre (xs : List ST) (t : ST) : ∃ r, putD xs t = xs ++ r := by
  unfold putD
  split
  · exact ⟨[], by simp⟩
  · exact ⟨[t], rfl⟩
theorem fold_di {U : List ST} : ∀ (ts xs : List ST), DI U xs → (∀ t ∈ ts, t ∈ U) → DI U (ts.foldl putD xs)
  | [], _, h, _ => h
  | t :: ts, xs, h, ht => fold_di ts (putD xs t) (putD_di h (ht t (by simp))) (fun y hy => ht y (by simp [hy]))
theorem fold_pre : ∀ (ts xs : List ST), ∃ r, ts.foldl putD xs = xs ++ r
  | [], xs => ⟨[], by simp⟩
  | t :: ts, xs => by
    obtain ⟨r, hr⟩ := putD_pre xs t
    obtain ⟨q, hq⟩ := fold_pre ts (putD xs t)
    exact ⟨r ++ q, by rw [List.foldl_cons, hq, hr, List.append_assoc]⟩
theorem give_mem {xs : List ST} {t k : ST} (h : k ∈ giveL xs t) : k ∈ t.f3 := by
  unfold giveL at h
  split at h
  · exact h
  · split at h
    · exact List.mem_of_mem_take h
    · cases h
theorem step_di {U xs : List ST} (hU : UnivD U) {i : Nat} (hi : i < xs.length) (h : DI U xs) : DI U (stepD xs i) := by
  unfold stepD
  have hx : xs.getD i z_T = xs[i] := by simp [List.getD_eq_getElem?_getD, List.getElem?_eq_getElem hi]
  rw [hx]
  exact fold_di _ _ h (fun t ht => (hU _ (h.2 _ (List.getElem_mem hi))).2.2 t (give_mem ht))
theorem step_pre (xs : List ST) (i : Nat) : ∃ r, stepD xs i = xs ++ r := fold_pre _ _
theorem pass_di {U : List ST} (hU : UnivD U) : ∀ (n : Nat) (xs : List ST), n ≤ xs.length → DI U xs → DI U ((List.range n).foldl stepD xs) ∧ ∃ r, (List.range n).foldl stepD xs = xs ++ r
  | 0, xs, _, h => ⟨h, [], by simp⟩
  | n + 1, xs, hn, h => by
    obtain ⟨h1, r, h2⟩ := pass_di hU n xs (by omega) h
    rw [List.range_succ, List.foldl_append]
    simp only [List.foldl_cons, List.foldl_nil]
    obtain ⟨q, hq⟩ := step_pre ((List.range n).foldl stepD xs) n
    refine ⟨step_di hU (by rw [h2, List.length_append]; omega) h1, r ++ q, ?_⟩
    rw [hq, h2, List.append_assoc]
theorem passD_di {U xs : List ST} (hU : UnivD U) (h : DI U xs) : DI U (passD xs) ∧ ∃ r, passD xs = xs ++ r := pass_di hU _ xs (Nat.le_refl _) h
/-- Where a pass finds nothing, nothing is left. -/
theorem closeN_fix {U : List ST} (hU : UnivD U) : ∀ (n : Nat) (xs : List ST), DI U xs → U.length < xs.length + n → DI U (closeN n xs) ∧ passD (closeN n xs) = closeN n xs
  | 0, xs, h, hn => absurd (nodup_le xs U h.1 h.2) (by omega)
  | n + 1, xs, h, hn => by
    obtain ⟨h1, r, h2⟩ := passD_di hU h
    rw [closeN]
    split
    · next hg => exact closeN_fix hU n (passD xs) h1 (by omega)
    · next hg =>
      have hr : r = [] := by
        rw [h2, List.length_append] at hg
        exact List.eq_nil_of_length_eq_zero (by omega)
      rw [hr, List.append_nil] at h2
      rw [h2]
      exact ⟨h, h2⟩
end Go.Proofs.Ytgohmganimamcaa.Term
/- derive.Closure: an element of the terms found so far, read; a body with a label, by one lemma about what stands behind the label. -/
namespace Go.Proofs.Ytgohmganimamcaa.Term
set_option linter.unusedVariables false
set_option linter.unusedSimpArgs false
open Go.RowKit Go.Proofs.Ytgohmganimamcaa.Base Go.Proofs.Ytgohmganimamcaa.TlvPlain Go.Proofs.Ytgohmganimamcaa.Lo Go.Proofs.Ytgohmganimamcaa.RdPlain Go.Proofs.Ytgohmganimamcaa.Aid Go.Proofs.Ytgohmganimamcaa.PZ Go.Proofs.YtgohmganimamcaaW.PrintWords Go.Proofs.YtgohmganimamcaaW.PrintLast Go.Proofs.YtgohmganimamcaaW.PrintMore
theorem InvD.elem {P : Nat → Prop} {v0 W : World} {g : Nat} {xs : List ST} (h : InvD P v0 g W xs) (i : Nat) (hi : i < xs.length) : ∃ gr c9 A2 c2 A3 c3, Blk W g 24 #[.slice (some ⟨gr, 0, none⟩) xs.length c9] ∧ RowsF v0 (fun k => P k ∧ k < v0.heap.size) xs[i] A2 c2 A3 c3 ∧
    W.cell? ⟨gr, i * 4, none⟩ = some (.int .i64 xs[i].f0) ∧ W.cell? ⟨gr, i * 4 + 1, none⟩ = some (.int .u64 xs[i].f1) ∧ W.cell? ⟨gr, i * 4 + 2, none⟩ = some (.slice A2 xs[i].f2.length c2) ∧ W.cell? ⟨gr, i * 4 + 3, none⟩ = some (.slice A3 xs[i].f3.length c3) := by
  obtain ⟨⟨h0, h1⟩, hw, v, rows, h2, hl, h3, h4⟩ := h
  have hir : i < rows.length := by omega
  obtain ⟨gr, c9, rfl, _, _, _⟩ := Kd.R_form h3 (by omega)
  obtain ⟨ad, ce, he, hcel, hK, hcc⟩ := Kd.C_get (Kd.R_reads' h3).2.2 zC (i : Int) (by omega) (by omega)
  injection he with he
  subst he
  rw [Int.toNat_natCast, List.getD_eq_getElem?_getD, List.getElem?_eq_getElem hir, Option.getD_some] at hK
  obtain ⟨hce, _, _⟩ := hK
  obtain ⟨A2, c2, A3, c3, hr, l2, f2, l3, f3⟩ := k26_openF (h4 i xs[i] rows[i] (List.getElem?_eq_getElem hi) (List.getElem?_eq_getElem hir))
  rw [hr] at hce
  subst hce
  have hc : ∀ j u, ([.int .i64 xs[i].f0, .int .u64 xs[i].f1, .slice A2 xs[i].f2.length c2, .slice A3 xs[i].f3.length c3] : List Value)[j]? = some u → W.cell? ⟨gr, i * 4 + j, none⟩ = some u := fun j u hu => by
    have h := hcc j u hu
    rw [add_at, Nat.zero_add, Int.toNat_natCast] at h
    exact h
  rw [hl] at h2
  exact ⟨gr, c9, A2, c2, A3, c3, h2, ⟨⟨l2, f2⟩, l3, f3⟩, hc 0 _ rfl, hc 1 _ rfl, hc 2 _ rfl, hc 3 _ rfl⟩
end Go.Proofs.Ytgohmganimamcaa.Term
/- derive.Closure walked, where its terms may be taken apart. -/
namespace Go.Proofs.Ytgohmganimamcaa.Term
set_option linter.unusedVariables false
set_option linter.unusedSimpArgs false
open Go.RowKit Go.Proofs.Ytgohmganimamcaa.Base Go.Proofs.Ytgohmganimamcaa.TlvPlain Go.Proofs.Ytgohmganimamcaa.Lo Go.Proofs.Ytgohmganimamcaa.RdPlain Go.Proofs.Ytgohmganimamcaa.Aid Go.Proofs.Ytgohmganimamcaa.PZ Go.Proofs.YtgohmganimamcaaW.PrintWords Go.Proofs.YtgohmganimamcaaW.PrintLast Go.Proofs.YtgohmganimamcaaW.PrintMore
theorem wp_scope_once {P : Program} {a : Act} {w : World} {Q : Exit → Act → World → Prop} {c X : Code} (l : Nat) (J : Act → World → Prop) (μ : Act → World → Nat) (hf : findLabel c l = some (Code.skip.seq X))
    (pass : ∀ a w, J a w → X.wp P (Exit.jump l (fun a' w' => J a' w' ∧ μ a' w' < μ a w) Q) a w)
    (first : (∀ a w, J a w → X.wp P (Exit.jump l J Q) a w) → c.wp P (Exit.jump l J Q) a w) : (Code.scope c).wp P Q a w :=
  wp_scope_jumps l J μ hf (first (fun a w h => Code.wp_mono (fun e a' w' hq => by
    cases e <;> first | exact hq | exact ⟨hq.1, hq.2.1⟩) (pass a w h))) (fun a w h => wp_seq (wp_skip (pass a w h)))
def putFn (g g6 : Nat) : Value := .func (.func 58) #[] #[.pointer (some ⟨g6, 0, none⟩), .pointer (some ⟨g, 0, none⟩)]
def lenAt (a : Act) (w : World) : Nat := match a.tmps.getD 5 undef with
  | .pointer (some p) => (match w.cell? p with | some (.slice _ n _) => 3000 - n | _ => 0)
  | _ => 0
theorem foldl_snoc (l : List ST) (i : Nat) (h : i < l.length) (a : List ST) : (l.take (i + 1)).foldl putD a = putD ((l.take i).foldl putD a) l[i] := by
  rw [take_snoc l i h, List.foldl_append]
  rfl
theorem invD_nil {P : Nat → Prop} {v0 W : World} {g : Nat} (hg : v0.heap.size ≤ g) (hB : Below v0.heap.size v0 W) (h : Blk W g 24 #[.slice none 0 0]) : InvD P v0 g W [] :=
  ⟨⟨hg, hB⟩, fun x hx => (by cases hx), .slice none 0 0, [], h, rfl, Kd.R_nil _ _ _ _ _, fun j x c hx _ => (by simp at hx)⟩
/-- What holds at each jump. -/
def JD (P : Nat → Prop) (w : World) (U l : List ST) (A : Option Addr) (c : Nat) (a : Act) (w' : World) : Prop :=
  ∃ (xs : List ST) (n g g6 : Nat), (InvD P w g w' xs ∧ Blk w' g6 37 #[thereV g]) ∧ (DI U xs ∧ closeN n xs = closeD l ∧ U.length < xs.length + n) ∧
    ∃ (u1 u4 u8 u9 u10 u11 u12 u13 u14 u15 u16 u17 u18 u19 u20 u21 u22 u23 u24 u25 u26 u27 u28 u29 u30 u31 u32 u33 u34 u35 u36 u37 u38 u39 u40 u41 u42 u43 u44 u45 u46 u47 u48 u49 u50 u51 u52 u53 u54 u55 u56 u57 : Value), a = { tmps := ((.slice A l.length c) :: u1 :: (.slice none 0 0) :: (.int .i64 0) :: u4 :: (.pointer (some ⟨g, 0, none⟩)) :: (.pointer (some ⟨g6, 0, none⟩)) :: (putFn g g6) :: u8 :: u9 :: u10 :: u11 :: u12 :: u13 :: u14 :: u15 :: u16 :: u17 :: u18 :: u19 :: u20 :: u21 :: u22 :: u23 :: u24 :: u25 :: u26 :: u27 :: u28 :: u29 :: u30 :: u31 :: u32 :: u33 :: u34 :: u35 :: u36 :: u37 :: u38 :: u39 :: u40 :: u41 :: u42 :: u43 :: u44 :: u45 :: u46 :: u47 :: u48 :: u49 :: u50 :: u51 :: u52 :: u53 :: u54 :: u55 :: u56 :: u57 :: ([] : List Value)).toArray, defers := [] }
set_option maxHeartbeats 16000000 in
set_option maxRecDepth 100000 in
theorem closure_c {P : Nat → Prop} {U l : List ST} (hU : UnivD U) (hUl : U.length ≤ 2000) (hl : ∀ x ∈ l, x ∈ U) (A : Option Addr) (c : Nat) (w : World) (hr : Kd.C k26 w A l.length l) (hP : Kd.F k26 w (fun k => P k ∧ k < w.heap.size) A l.length l) (hc : l.length ≤ c)
    (hright : Calls Try.prog 55 #[.slice A l.length c] w fun e w' => e = .returned (.int .i64 0) ∧ Below w.heap.size w w') :
    Calls Try.prog 25 #[.slice A l.length c] w fun e w' => ∃ v, e = .returned (.tuple #[v, .int .i64 0]) ∧ Kd.N k26 26 w' w.heap.size (fun k => P k ∨ w.heap.size ≤ k) v (closeD l) ∧ Below w.heap.size w w' := by
  have HU := Aside0.mk hU
  have HUL := Aside0.mk (And.intro hUl hl)
  have HF := Aside0.mk hP
  have HM := Aside0.mk hr.2.1
  have HRT := Aside0.mk hright
  have hu26 := Try.underlying26
  have hu24 := Try.underlying24
  have hu37 := Try.underlying37
  clear hU hUl hl hr hP hright
  go_enter Try.func25, Try.ntmps25
  go_wp2
  refine wp_scope_once 0 (JD P w U l A c) lenAt rfl ?pass ?first
  case first =>
    intro hrest
    have HREST := Aside0.mk hrest
    clear hrest
    go_wp2_with (go_at_call 55; refine HRT.out.mono ?_; rintro e w1 ⟨rfl, hb⟩; have HB1 := Aside0.mk hb; clear hb)
    have HI0 := Aside0.mk (show InvD P w w1.heap.size (((w1.alloc (.cells #[.slice none 0 0] 24)).alloc (.cells #[thereV w1.heap.size] 37))) [] from invD_nil HB1.out.size (below_alloc (below_alloc HB1.out _) _) (Blk.alloc (show Blk (w1.alloc (.cells #[.slice none 0 0] 24)) w1.heap.size 24 #[.slice none 0 0] from blk_new _ _) _))
    go_loopg [23] l.length (fun gf s23 wx => ∃ (i : Nat), s23 = .int .i64 (i : Int) ∧ i + gf = l.length ∧ (InvD P w w1.heap.size wx ((l.take i).foldl putD []) ∧ Blk wx (w1.heap.size + 1) 37 #[thereV w1.heap.size]) ∧ DI U ((l.take i).foldl putD []))
    case atStart => exact ⟨0, rfl, by omega, ⟨HI0.out, second_obj _ _ _⟩, List.nodup_nil, fun x hx => (by cases hx)⟩
    case round =>
      obtain ⟨i, rfl, hi, ⟨hinv, h6⟩, hdi⟩ := hrel
      have HJ := Aside0.mk hinv
      have H6 := Aside0.mk h6
      have HQ := Aside0.mk hi
      have HD := Aside0.mk hdi
      clear hinv h6 hi hdi
      by_cases hlt : i < l.length
      · have hl1 : decide ((i : Int) < (l.length : Int)) = true := decide_eq_true (by omega)
        have hw1 : wrap64 ((i : Int) + 1) = ((i + 1 : Nat) : Int) := by rw [Aid.w64 (by omega) (by have := HM.out; omega)]; omega
        obtain ⟨ad, B2, d2, B3, d3, rfl, hrw, hx0, hx1, hx2, hx3⟩ := at_F HF.out i hlt
        have hbm := HJ.out.1.2
        replace hx0 := (hbm.cell (World.block_lt_of_cell? _ _ hx0)).trans hx0
        replace hx1 := (hbm.cell (World.block_lt_of_cell? _ _ hx1)).trans hx1
        replace hx2 := (hbm.cell (World.block_lt_of_cell? _ _ hx2)).trans hx2
        replace hx3 := (hbm.cell (World.block_lt_of_cell? _ _ hx3)).trans hx3
        have hin : l[i] ∈ U := HUL.out.2 _ (List.getElem_mem hlt)
        have HDN := Aside0.mk (putD_di HD.out hin)
        have HSN := Aside0.mk (foldl_snoc l i hlt [])
        have HPC := Aside0.mk (fun (W1 : World) (h1 : InvD P w w1.heap.size W1 ((l.take i).foldl putD [])) (h2 : Blk W1 (w1.heap.size + 1) 37 #[thereV w1.heap.size]) => put2_c h1 h2 hrw (HU.out _ hin).1 (by have := nodup_le _ U HD.out.1 HD.out.2; have := HUL.out.1; omega))
        obtain ⟨y, hy⟩ : ∃ y, l[i] = y := ⟨_, rfl⟩
        rw [hy] at hx0 hx1 hx2 hx3 HDN HSN HPC
        clear hbm hrw hin hy
        have p1 : (0 : Int) ≤ (i : Int) := by omega
        have p2 : (i : Int) < (l.length : Int) := by omega
        clear hlt
        go_wp2_with (go_at_call 58; refine (HPC.out _ (HJ.out.below (below_alloc (Below.refl _ _) _)) (H6.out.below (below_alloc (Below.refl _ _) _))).mono ?_; rintro e w' ⟨rfl, hv, hb6⟩; have HVV := Aside0.mk hv; have HV6 := Aside0.mk hb6; clear hv hb6)
        go_roundg (l.length - (i + 1))
        case measure => have := HQ.out; omega
        case rel => exact ⟨i + 1, by first | rfl | rw [hw1], by omega, by rw [HSN.out]; exact ⟨⟨HVV.out, HV6.out⟩, HDN.out⟩⟩
      · have hl1 : decide ((i : Int) < (l.length : Int)) = false := decide_eq_false (by omega)
        have HE := Aside0.mk (show (l.take i) = l from List.take_of_length_le (by omega))
        go_wp2
        go_step3
        rename_i hKK
        refine hKK _ _ ?_
        apply HREST.out
        exact ⟨l.foldl putD [], 2001, w1.heap.size, w1.heap.size + 1, ⟨by have h := HJ.out; rw [HE.out] at h; exact h, H6.out⟩, ⟨by have h := HD.out; rw [HE.out] at h; exact h, rfl, by have := HUL.out.1; omega⟩, _, _, _, _, _, _, _, _, _, _, _, _, _, _, _, _, _, _, _, _, _, _, _, _, _, _, _, _, _, _, _, _, _, _, _, _, _, _, _, _, _, _, _, _, _, _, _, _, _, _, _, _, rfl⟩
  case pass =>
    rintro a' w' ⟨xs, n, g, g6, ⟨hinv, h6⟩, ⟨hdi, hcl, hfu⟩, u1, u4, u8, u9, u10, u11, u12, u13, u14, u15, u16, u17, u18, u19, u20, u21, u22, u23, u24, u25, u26, u27, u28, u29, u30, u31, u32, u33, u34, u35, u36, u37, u38, u39, u40, u41, u42, u43, u44, u45, u46, u47, u48, u49, u50, u51, u52, u53, u54, u55, u56, u57, rfl⟩
    unfold putFn
    obtain ⟨Ar, cr, hg, _, _⟩ := hinv.reads
    have HJ := Aside0.mk hinv
    have H6 := Aside0.mk h6
    have HD := Aside0.mk hdi
    have HCF := Aside0.mk (And.intro hcl hfu)
    have HLA := Aside0.mk (show w'.cell? ⟨g, 0, none⟩ = some (.slice Ar xs.length cr) from by have h := hg.cell 0; simpa using h)
    have y0 := HLA.out
    clear hinv h6 hdi hcl hfu hg
    go_wp2_with (fail)
    go_loopg [34] xs.length (fun gf s34 wx => ∃ (i : Nat), s34 = .int .i64 (i : Int) ∧ i + gf = xs.length ∧ (InvD P w g wx ((List.range i).foldl stepD xs) ∧ Blk wx g6 37 #[thereV g]) ∧ DI U ((List.range i).foldl stepD xs) ∧ ∃ r, (List.range i).foldl stepD xs = xs ++ r)
    case atStart => exact ⟨0, rfl, by omega, ⟨HJ.out, H6.out⟩, HD.out, [], by simp⟩
    case round =>
      obtain ⟨i, rfl, hi, ⟨hinv, h6⟩, hdi, r, hpre⟩ := hrel
      have HJ1 := Aside0.mk hinv
      have H61 := Aside0.mk h6
      have HQ := Aside0.mk hi
      have HD1 := Aside0.mk hdi
      have HPR := Aside0.mk hpre
      have HXL := Aside0.mk (show xs.length ≤ 2000 from by have := nodup_le _ U HD.out.1 HD.out.2; have := HUL.out.1; omega)
      clear hinv h6 hi hdi hpre
      by_cases hlt : i < xs.length
      · have hl1 : decide ((i : Int) < (xs.length : Int)) = true := decide_eq_true (by omega)
        have hw1 : wrap64 ((i : Int) + 1) = ((i + 1 : Nat) : Int) := by rw [Aid.w64 (by omega) (by have := HXL.out; omega)]; omega
        have HSU := Aside0.mk (show (List.range (i + 1)).foldl stepD xs = stepD ((List.range i).foldl stepD xs) i by rw [List.range_succ, List.foldl_append]; rfl)
        obtain ⟨ys, hys⟩ : ∃ ys, (List.range i).foldl stepD xs = ys := ⟨_, rfl⟩
        rw [hys] at HJ1 HD1 HPR HSU
        clear hys
        have hiy : i < ys.length := by rw [HPR.out, List.length_append]; omega
        have HYL := Aside0.mk (show ys.length ≤ 2000 from by have := nodup_le _ U HD1.out.1 HD1.out.2; have := HUL.out.1; omega)
        obtain ⟨gr, c9, A2, c2, A3, c3, hg, hrw, k0, k1, k2, k3⟩ := HJ1.out.elem i hiy
        have hin : ys[i] ∈ U := HD1.out.2 _ (List.getElem_mem hiy)
        have hgd : ys.getD i z_T = ys[i] := by simp [List.getD_eq_getElem?_getD, List.getElem?_eq_getElem hiy]
        have HST := Aside0.mk (show stepD ys i = (giveL ys ys[i]).foldl putD ys by unfold stepD; rw [hgd])
        have HGV := Aside0.mk (fun (W1 : World) (h1 : InvD P w g W1 ys) => gives_c h1 (HU.out _ hin).1 (HU.out _ hin).2.1 hrw)
        have HGU := Aside0.mk (show ∀ k ∈ giveL ys ys[i], k ∈ U from fun k hk => (HU.out _ hin).2.2 k (give_mem hk))
        obtain ⟨t, ht⟩ : ∃ t, ys[i] = t := ⟨_, rfl⟩
        rw [ht] at k0 k1 k2 k3 HST HGV HGU
        clear hrw hin hgd ht
        have HGC := Aside0.mk hg
        have HK := Aside0.mk (And.intro k0 (And.intro k1 (And.intro k2 k3)))
        have p1 : (0 : Int) ≤ (i : Int) := by omega
        have p2 : (i : Int) < (ys.length : Int) := by omega
        have p3 : (i : Int) < (xs.length : Int) := by omega
        clear hlt hiy hg k0 k1 k2 k3 y0
        go_upto_region 16 with (fail)
        have HSS := Aside0.mk (fun (W1 : World) (hb : Below wr.heap.size wr W1) => show (W1.cell? ⟨g, 0, none⟩ = some (.slice (some ⟨gr, 0, none⟩) ys.length c9) ∧ W1.cell? ⟨g6, 0, none⟩ = some (thereV g)) ∧ (W1.cell? ⟨gr, i * 4, none⟩ = some (.int .i64 t.f0) ∧ W1.cell? ⟨gr, i * 4 + 1, none⟩ = some (.int .u64 t.f1) ∧ W1.cell? ⟨gr, i * 4 + 2, none⟩ = some (.slice A2 t.f2.length c2) ∧ W1.cell? ⟨gr, i * 4 + 3, none⟩ = some (.slice A3 t.f3.length c3)) from
          ⟨⟨by have h := (HGC.out.below hb).cell 0; simpa using h, by have h := (H61.out.below hb).cell 0; simpa using h⟩, (hb.cell (World.block_lt_of_cell? _ _ HK.out.1)).trans HK.out.1, (hb.cell (World.block_lt_of_cell? _ _ HK.out.2.1)).trans HK.out.2.1, (hb.cell (World.block_lt_of_cell? _ _ HK.out.2.2.1)).trans HK.out.2.2.1, (hb.cell (World.block_lt_of_cell? _ _ HK.out.2.2.2)).trans HK.out.2.2.2⟩)
        have HBD := Aside0.mk (below_drew1 (Below.refl wr.heap.size wr))
        refine wp_region_held_drew (S := fun W1 => (W1.cell? ⟨g, 0, none⟩ = some (.slice (some ⟨gr, 0, none⟩) ys.length c9) ∧ W1.cell? ⟨g6, 0, none⟩ = some (thereV g)) ∧ (W1.cell? ⟨gr, i * 4, none⟩ = some (.int .i64 t.f0) ∧ W1.cell? ⟨gr, i * 4 + 1, none⟩ = some (.int .u64 t.f1) ∧ W1.cell? ⟨gr, i * 4 + 2, none⟩ = some (.slice A2 t.f2.length c2) ∧ W1.cell? ⟨gr, i * 4 + 3, none⟩ = some (.slice A3 t.f3.length c3))) (by kernel_rfl) (HSS.out _ HBD.out) (fun hHeld => ?_)
        (refine wpAnyH_take (i := 0) (v := ?_) rfl (by kernel_rfl) (by kernel_rfl) (by kernel_rfl) (fun _ _ _ h => h) (Or.inl ⟨by rfl, ?_⟩) (by assumption) ?_; (case' refine_2 => (intro w hSw; go_simp; try with_reducible rfl)); (try simp only [Act.put, List.getElem_toArray, List.getElem_cons_zero, List.getElem_cons_succ, List.setIfInBounds_toArray, List.set_cons_zero, List.set_cons_succ]))
        (refine wpAnyH_take (i := 1) (v := ?_) rfl (by kernel_rfl) (by kernel_rfl) (by kernel_rfl) (fun _ _ _ h => h) (Or.inl ⟨by rfl, ?_⟩) (by assumption) ?_; (case' refine_2 => (intro w hSw; go_simp; try with_reducible rfl)); (try simp only [Act.put, List.getElem_toArray, List.getElem_cons_zero, List.getElem_cons_succ, List.setIfInBounds_toArray, List.set_cons_zero, List.set_cons_succ]))
        (refine wpAnyH_take (i := 2) (v := ?_) rfl (by kernel_rfl) (by kernel_rfl) (by kernel_rfl) (fun _ _ _ h => h) (Or.inl ⟨by rfl, ?_⟩) (by assumption) ?_; (case' refine_2 => (intro w hSw; go_simp; try with_reducible rfl)); (try simp only [Act.put, List.getElem_toArray, List.getElem_cons_zero, List.getElem_cons_succ, List.setIfInBounds_toArray, List.set_cons_zero, List.set_cons_succ]))
        (refine wpAnyH_take (i := 3) (v := ?_) rfl (by kernel_rfl) (by kernel_rfl) (by kernel_rfl) (fun _ _ _ h => h) (Or.inl ⟨by rfl, ?_⟩) (by assumption) ?_; (case' refine_2 => (intro w hSw; go_simp; try with_reducible rfl)); (try simp only [Act.put, List.getElem_toArray, List.getElem_cons_zero, List.getElem_cons_succ, List.setIfInBounds_toArray, List.set_cons_zero, List.set_cons_succ]))
        (refine wpAnyH_take (i := 4) (v := ?_) rfl (by kernel_rfl) (by kernel_rfl) (by kernel_rfl) (fun _ _ _ h => h) (Or.inl ⟨by rfl, ?_⟩) (by assumption) ?_; (case' refine_2 => (intro w hSw; go_simp; try with_reducible rfl)); (try simp only [Act.put, List.getElem_toArray, List.getElem_cons_zero, List.getElem_cons_succ, List.setIfInBounds_toArray, List.set_cons_zero, List.set_cons_succ]))
        (refine wpAnyH_take (i := 7) (v := ?_) rfl (by kernel_rfl) (by kernel_rfl) (by kernel_rfl) (fun _ _ _ h => h) (Or.inl ⟨by rfl, ?_⟩) (by assumption) ?_; (case' refine_2 => (intro w hSw; go_simp; try with_reducible rfl)); (try simp only [Act.put, List.getElem_toArray, List.getElem_cons_zero, List.getElem_cons_succ, List.setIfInBounds_toArray, List.set_cons_zero, List.set_cons_succ]))
        (refine wpAnyH_ready (rs := [5]) (by kernel_rfl) (by simp) (AllReadyH.cons rfl (fun K hK => ?_) AllReadyH.nil); go_simp)
        refine (HGV.out _ (HJ1.out.below HBD.out)).mono ?_
        rintro e w2 ⟨v, rfl, hlg, hb⟩
        obtain ⟨AG, cG, rfl, hgl, hgF⟩ := hlg
        have HGL := Aside0.mk (And.intro hgl hgF)
        have HB2 := Aside0.mk (below_step HBD.out hb)
        clear hgl hgF hb
        (refine Shut.out hK _ _ (HSS.out _ HB2.out) (fun hHeld => ?_); clear hK K; (try simp only [Act.put, List.getElem_toArray, List.getElem_cons_zero, List.getElem_cons_succ, List.setIfInBounds_toArray, List.set_cons_zero, List.set_cons_succ]))
        (refine wpAnyH_take (i := 6) (v := ?_) rfl (by kernel_rfl) (by kernel_rfl) (by kernel_rfl) (fun _ _ _ h => h) (Or.inl ⟨by rfl, ?_⟩) (by assumption) ?_; (case' refine_2 => (intro w hSw; go_simp; try with_reducible rfl)); (try simp only [Act.put, List.getElem_toArray, List.getElem_cons_zero, List.getElem_cons_succ, List.setIfInBounds_toArray, List.set_cons_zero, List.set_cons_succ]))
        refine wpAnyH_done (by kernel_rfl) ?_ _
        have HJ2 := Aside0.mk (HJ1.out.below HB2.out)
        have H62 := Aside0.mk (H61.out.below HB2.out)
        clear hHeld
        obtain ⟨gl, hgl⟩ : ∃ gl, giveL ys t = gl := ⟨_, rfl⟩
        rw [hgl] at HGL HST HGU ⊢
        clear hgl
        go_wp2_with (fail)
        go_loopg [44] gl.length (fun gf s44 wx => ∃ (j : Nat), s44 = .int .i64 (j : Int) ∧ j + gf = gl.length ∧ (InvD P w g wx ((gl.take j).foldl putD ys) ∧ Blk wx g6 37 #[thereV g]) ∧ DI U ((gl.take j).foldl putD ys))
        case atStart => exact ⟨0, rfl, by omega, ⟨HJ2.out, H62.out⟩, HD1.out⟩
        case round =>
          obtain ⟨j, rfl, hj, ⟨hinv, h6⟩, hdi⟩ := hrel
          have HJ3 := Aside0.mk hinv
          have H63 := Aside0.mk h6
          have HQJ := Aside0.mk hj
          have HD3 := Aside0.mk hdi
          clear hinv h6 hj hdi
          have HGM := Aside0.mk (Kd.F_now HGL.out.2).2.1
          by_cases hlt : j < gl.length
          · have hl2 : decide ((j : Int) < (gl.length : Int)) = true := decide_eq_true (by omega)
            have hw2 : wrap64 ((j : Int) + 1) = ((j + 1 : Nat) : Int) := by rw [Aid.w64 (by omega) (by have := HGM.out; omega)]; omega
            obtain ⟨ad, B2, d2, B3, d3, rfl, hrw, hx0, hx1, hx2, hx3⟩ := at_F HGL.out.2 j hlt
            have hbm := HJ3.out.1.2
            replace hx0 := (hbm.cell (World.block_lt_of_cell? _ _ hx0)).trans hx0
            replace hx1 := (hbm.cell (World.block_lt_of_cell? _ _ hx1)).trans hx1
            replace hx2 := (hbm.cell (World.block_lt_of_cell? _ _ hx2)).trans hx2
            replace hx3 := (hbm.cell (World.block_lt_of_cell? _ _ hx3)).trans hx3
            have hin : gl[j] ∈ U := HGU.out _ (List.getElem_mem hlt)
            have HDN := Aside0.mk (putD_di HD3.out hin)
            have HSN := Aside0.mk (foldl_snoc gl j hlt ys)
            have HPC := Aside0.mk (fun (W1 : World) (h1 : InvD P w g W1 ((gl.take j).foldl putD ys)) (h2 : Blk W1 g6 37 #[thereV g]) => put2_c h1 h2 hrw (HU.out _ hin).1 (by have := nodup_le _ U HD3.out.1 HD3.out.2; have := HUL.out.1; omega))
            obtain ⟨y, hy⟩ : ∃ y, gl[j] = y := ⟨_, rfl⟩
            rw [hy] at hx0 hx1 hx2 hx3 HDN HSN HPC
            clear hbm hrw hin hy
            have q1 : (0 : Int) ≤ (j : Int) := by omega
            have q2 : (j : Int) < (gl.length : Int) := by omega
            clear hlt
            go_wp2_with (go_at_call 58; refine (HPC.out _ (HJ3.out.below (below_alloc (Below.refl _ _) _)) (H63.out.below (below_alloc (Below.refl _ _) _))).mono ?_; rintro e w3 ⟨rfl, hv, hb6⟩; have HVV := Aside0.mk hv; have HV6 := Aside0.mk hb6; clear hv hb6)
            go_roundg (gl.length - (j + 1))
            case measure => have := HQJ.out; omega
            case rel => exact ⟨j + 1, by first | rfl | rw [hw2], by omega, by rw [HSN.out]; exact ⟨⟨HVV.out, HV6.out⟩, HDN.out⟩⟩
          · have hl2 : decide ((j : Int) < (gl.length : Int)) = false := decide_eq_false (by omega)
            have HE := Aside0.mk (show (gl.take j).foldl putD ys = stepD ys i from by rw [HST.out, List.take_of_length_le (by omega)])
            go_wp2
            go_roundg (xs.length - (i + 1))
            case measure => have := HQ.out; omega
            case rel =>
              obtain ⟨r2, hr2⟩ := step_pre ys i
              refine ⟨i + 1, by first | rfl | rw [hw1], by omega, ⟨?_, H63.out⟩, ?_, r ++ r2, ?_⟩
              · have h := HJ3.out
                rw [HE.out, ← HSU.out] at h
                exact h
              · have h := HD3.out
                rw [HE.out, ← HSU.out] at h
                exact h
              · rw [HSU.out, hr2, HPR.out, List.append_assoc]
      · have hl1 : decide ((i : Int) < (xs.length : Int)) = false := decide_eq_false (by omega)
        have hix : i = xs.length := by have := HQ.out; omega
        subst hix
        have hps : (List.range xs.length).foldl stepD xs = passD xs := rfl
        rw [hps] at HJ1 HD1 HPR
        clear hps
        obtain ⟨vz, hgz, hnz⟩ := HJ1.out.n
        obtain ⟨Az, cz, rfl⟩ := Kd.N_slice hnz
        have HRD := Aside0.mk hnz
        have HLZ := Aside0.mk (show wr.cell? ⟨g, 0, none⟩ = some (.slice Az (passD xs).length cz) from by have h := hgz.cell 0; simpa using h)
        have HPL := Aside0.mk (show (passD xs).length ≤ 2000 from by have := nodup_le _ U HD1.out.1 HD1.out.2; have := HUL.out.1; omega)
        have hxu : xs.length ≤ U.length := nodup_le _ U HD.out.1 HD.out.2
        obtain ⟨m, rfl⟩ : ∃ m, n = m + 1 := ⟨n - 1, by have := HCF.out.2; omega⟩
        have HCN := Aside0.mk (show (if (passD xs).length > xs.length then closeN m (passD xs) else passD xs) = closeD l from HCF.out.1)
        have HFU := Aside0.mk HCF.out.2
        have z0 := HLZ.out
        clear hgz hnz hlt hxu y0 HCF
        by_cases hgr : (passD xs).length > xs.length
        · have p4 : (xs.length : Int) < ((passD xs).length : Int) := by omega
          have HGR := Aside0.mk hgr
          rw [if_pos hgr] at HCN
          clear hgr
          go_wp2_with (fail)
          go_step3
          refine ⟨rfl, ⟨passD xs, m, g, g6, ⟨HJ1.out, H61.out⟩, ⟨HD1.out, HCN.out, by have := HFU.out; have := HGR.out; omega⟩, _, _, _, _, _, _, _, _, _, _, _, _, _, _, _, _, _, _, _, _, _, _, _, _, _, _, _, _, _, _, _, _, _, _, _, _, _, _, _, _, _, _, _, _, _, _, _, _, _, _, _, _, rfl⟩, ?_⟩
          have e1 := HLA.out
          have e2 := HLZ.out
          have := HGR.out
          have := HPL.out
          simp [lenAt, e1, e2]
          omega
        · have p4 : ¬ ((xs.length : Int) < ((passD xs).length : Int)) := by omega
          rw [if_neg hgr] at HCN
          clear hgr
          go_wp2_with (fail)
          simp only [Exit.jump]
          go_ret2
          refine ⟨_, rfl, ?_, HJ1.out.1.2⟩
          rw [← HCN.out]
          exact Kd.N_mono HRD.out (fun k hk => by rcases hk.1 with h | h; exact .inl h.1; exact .inr h)
end Go.Proofs.Ytgohmganimamcaa.Term
/- term.Parts in the printed functions' form (its elements share what came in). -/
namespace Go.Proofs.Ytgohmganimamcaa.PZ
set_option linter.unusedVariables false
open Go.RowKit Go.Proofs.YtgohmganimamcaaW.PrintWords Go.Proofs.YtgohmganimamcaaW.PrintMore Go.Proofs.Ytgohmganimamcaa.Term
def term_Parts.f (a0_0 : Int) (a0_1 : Int) (l0_2 : List Int) (l0_3 : List (S26)) : Option (List (S26)) := if wfB ⟨a0_0, a0_1, l0_2, l0_3⟩ = true then some (partsV ⟨a0_0, a0_1, l0_2, l0_3⟩) else none
theorem term_Parts.calls (a0_0 : Int) (a0_1 : Int) (P0_2_ : Nat → Prop) (A0_2 : Option Addr) (c0_2 : Nat) (l0_2 : List Int) (P0_3_ : Nat → Prop) (A0_3 : Option Addr) (c0_3 : Nat) (l0_3 : List (S26)) (r : List (S26)) (w : World) (hs0_2 : Kd.V (Kd.int .u8) 5 w w.heap.size (fun k_ => P0_2_ k_) (.slice A0_2 l0_2.length c0_2) l0_2) (hs0_3 : Kd.V k26 26 w w.heap.size (fun k_ => P0_3_ k_) (.slice A0_3 l0_3.length c0_3) l0_3) (h : term_Parts.f a0_0 a0_1 l0_2 l0_3 = some r) :
    Calls Try.prog 39 #[.agg #[.int .i64 a0_0, .int .u64 a0_1, .slice A0_2 l0_2.length c0_2, .slice A0_3 l0_3.length c0_3]] w fun e w' => ∃ v0_ : Value, e = .returned (v0_) ∧ Kd.N k26 26 w' w.heap.size (fun k_ => ((P0_2_ k_ ∨ P0_3_ k_) ∨ w.heap.size ≤ k_)) v0_ r ∧ Below w.heap.size w w' := by
  unfold term_Parts.f at h
  split at h
  · next hc =>
    obtain rfl := Option.some.inj h
    obtain ⟨_, h1, h2⟩ := Kd.V_at hs0_2
    obtain ⟨_, h3, h4⟩ := Kd.V_at hs0_3
    exact parts_c (fun k => P0_2_ k ∨ P0_3_ k) ⟨a0_0, a0_1, l0_2, l0_3⟩ ((wfB_iff _).1 hc) A0_2 c0_2 A0_3 c0_3 w ⟨⟨h1, Kd.F_mono (Kd.F_bound h2) (fun k hk => ⟨.inl hk.1, hk.2⟩)⟩, h3, Kd.F_mono (Kd.F_bound h4) (fun k hk => ⟨.inr hk.1, hk.2⟩)⟩
  · cases h
end Go.Proofs.Ytgohmganimamcaa.PZ
-- printed for this claim by a program (pall.sh)
-- mended by fixpz.py
namespace Go.Proofs.Ytgohmganimamcaa.PZ
open Go.RowKit Go.Proofs.YtgohmganimamcaaW.PrintWords Go.Proofs.YtgohmganimamcaaW.PrintLast Go.Proofs.YtgohmganimamcaaW.PrintMore
attribute [local go_sem] max2_int min2_int max_two min_two max_three min_three max_four min_four   -- for this text's walks alone
set_option linter.unusedVariables false
set_option linter.unusedSimpArgs false

/-! ### derive_right: function 55 -/
mutual
def derive_right.l0 : Nat → List (S26) → Int → List (S26) → Int → Int → Option (Int)
 | 0, _, _, _, _, _ => none
 | k + 1, x0, x3, x9, x10, x11 => if x11 < x10 then (if 0 ≤ x11 then (if x11 < (x9.length : Int) then ((term_Check.f k ((rd_T26 x9 x11).f0) ((rd_T26 x9 x11).f1) ((rd_T26 x9 x11).f2) ((rd_T26 x9 x11).f3)).bind fun t103 => (if t103 = 0 then (derive_right.l0 k x0 x3 x9 x10 (wrap64 (x11 + 1))) else (some t103))) else (none)) else (none)) else (derive_right.l1 k x0 x3 x0 (x0.length : Int) 0)
def derive_right.l1 : Nat → List (S26) → Int → List (S26) → Int → Int → Option (Int)
 | 0, _, _, _, _, _ => none
 | k + 1, x0, x3, x21, x22, x23 => if x23 < x22 then (if 0 ≤ x23 then (if x23 < (x21.length : Int) then ((term_Parts.f ((rd_T26 x21 x23).f0) ((rd_T26 x21 x23).f1) ((rd_T26 x21 x23).f2) ((rd_T26 x21 x23).f3)).bind fun t106 => (if (wrap64 (x3 + (t106.length : Int))) > 2000 then (some 4) else (derive_right.l1 k x0 (wrap64 (x3 + (t106.length : Int))) x21 x22 (wrap64 (x23 + 1))))) else (none)) else (none)) else (if (x0.length : Int) > 300 then (some 4) else (some 0))
end
def derive_right.f (k : Nat) (l0 : List (S26)) : Option (Int) := derive_right.l0 k l0 0 l0 (l0.length : Int) 0
set_option maxHeartbeats 8000000 in
set_option maxRecDepth 100000 in
theorem derive_right.calls (k : Nat) (A0 : Option Addr) (c0 : Nat) (l0 : List (S26)) (r : Int) (w : World) (hr0 : Kd.C k26 w A0 l0.length l0) (hc0 : l0.length ≤ c0) (h : derive_right.f k l0 = some r) :
  Calls Try.prog 55 #[.slice A0 l0.length c0] w fun e w' => e = .returned (.int .i64 r) ∧ Below w.heap.size w w' := by
 have hu26 := Try.underlying26
 have HR0 := Aside0.mk hr0
 have HC0 := Aside0.mk hc0
 clear hr0 hc0
 have HB := Aside0.mk (Below.refl w.heap.size w)
 have H : (derive_right.l0 k l0 0 l0 (l0.length : Int) 0) = some r := h
 clear h
 have H' := Aside0.mk H
 clear H
 go_enter Try.func55, Try.ntmps55
 go_wp2
 go_loopg [11] k (fun kq v11 w' => ∃ (x11_1 : Int), v11 = .int .i64 x11_1 ∧ Aside0 (derive_right.l0 kq l0 0 l0 (l0.length : Int) x11_1 = some r) ∧ Aside0 (kq ≤ k) ∧ Aside0 (Below w.heap.size w w'))
 case atStart => exact ⟨(0), (by first | rfl | (simp; done) | (simp [*]; done)), H', ⟨Nat.le_refl _⟩, ⟨by repeat (first | (with_reducible first | exact HB.out | apply below_alloc | apply pw_below_drewN | apply below_drew1) | exact HB.out)⟩⟩
 case round =>
  clear H'
  obtain ⟨x11_1, rfl, HA, HK1, HB⟩ := hrel
  cases gk with
  | zero => exact absurd HA.out (by simp [derive_right.l0])
  | succ k1 =>
   have H := HA.out
   clear HA
   simp only [derive_right.l0] at H
   by_cases c2 : x11_1 < (l0.length : Int)
   ·rw [if_pos c2] at H
    have c2b0 : decide (x11_1 < (l0.length : Int)) = true := decide_eq_true c2
    clear c2
    by_cases c3 : 0 ≤ x11_1
    ·rw [if_pos c3] at H
     have c3b0 : decide (0 ≤ x11_1) = true := decide_eq_true c3
     clear c3
     by_cases c4 : x11_1 < (l0.length : Int)
     ·rw [if_pos c4] at H
      have c4b0 : decide (x11_1 < (l0.length : Int)) = true := decide_eq_true c4
      clear c4
      replace H := Option.bind_eq_some_iff.mp H
      obtain ⟨t103, A50, H⟩ := H
      replace H : (if t103 = 0 then (derive_right.l0 k1 l0 0 l0 (l0.length : Int) (wrap64 (x11_1 + 1))) else (some t103)) = some r := H
      have A5 := Aside0.mk A50
      clear A50
      by_cases c6 : t103 = 0
      ·rw [if_pos c6] at H
       have c6b0 : (t103 == 0) = true := beq_iff_eq.mpr c6
       have c6b1 : (t103 != 0) = false := bne_eq_false_iff_eq.mpr c6
       clear c6
       have H' := Aside0.mk H
       clear H
       have p101 : 0 ≤ (x11_1 : Int) := of_decide_eq_true (by first | (with_reducible assumption) | assumption)
       have q101 : x11_1 < (l0.length : Int) := of_decide_eq_true (by first | (with_reducible assumption) | assumption)
       obtain ⟨ad101, A101_2, c101_2, A101_3, c101_3, e101, hx101_0, hx101_1, hx101_2, hx101_3, hl101_2, hi101_2, hl101_3, hi101_3⟩ := at_T26 HR0.out x11_1 p101 q101
       cases e101
       replace hx101_0 := (HB.out.cell (World.block_lt_of_cell? w _ hx101_0)).trans hx101_0
       replace hx101_1 := (HB.out.cell (World.block_lt_of_cell? w _ hx101_1)).trans hx101_1
       replace hx101_2 := (HB.out.cell (World.block_lt_of_cell? w _ hx101_2)).trans hx101_2
       replace hx101_3 := (HB.out.cell (World.block_lt_of_cell? w _ hx101_3)).trans hx101_3
       have HR101_2 := Aside0.mk hi101_2
       have HC101_2 := Aside0.mk hl101_2
       clear hi101_2 hl101_2
       have HR101_3 := Aside0.mk hi101_3
       have HC101_3 := Aside0.mk hl101_3
       clear hi101_3 hl101_3
       replace p101 := eq_true p101
       replace q101 := eq_true q101
       go_wp2_with (first | ((with_reducible refine gate_dst (N := 5) rfl ?_); refine box_event ?hg (N := 5) ?hd (cs := #[.int .i64 0, .int .u64 0, .slice none 0 0, .slice none 0 0]) (t := 26) ?hr ?_; (case hd => rfl); (case hg => rfl); (case hr => first | (go_simp; done) | (go_simp; rfl)); intro gb102 hg w7 hbox hb; have n0_ := Aside0.mk (below_step (by repeat (first | (with_reducible first | exact HB.out | apply below_alloc | apply pw_below_drewN | apply below_drew1) | exact HB.out)) hb); have n1_ := Aside0.mk (hbox); have n2_ := Aside0.mk ((by rw [hg]; exact (below_size (by repeat (first | (with_reducible first | exact HB.out | apply below_alloc | apply pw_below_drewN | apply below_drew1) | exact HB.out))) : w.heap.size ≤ gb102)); have n3_ := Aside0.mk ((by rw [hg]; exact (below_size (by repeat (first | (with_reducible first | exact HB.out | apply below_alloc | apply pw_below_drewN | apply below_drew1) | exact HB.out))) : w.heap.size ≤ gb102)); clear HB; have HB := n0_; have BK102 := n1_; have GW102 := n2_; have GE102 := n3_; clear n0_ n1_ n2_ n3_; clear hb hbox hg; have hcz8_0 : w7.cell? ⟨gb102, 0, none⟩ = some (.int .i64 0) := (blk_cell BK102.out 0).trans rfl; have hcz8_1 : w7.cell? ⟨gb102, 1, none⟩ = some (.int .u64 0) := (blk_cell BK102.out 1).trans rfl; have hcz8_2 : w7.cell? ⟨gb102, 2, none⟩ = some (.slice none 0 0) := (blk_cell BK102.out 2).trans rfl; have hcz8_3 : w7.cell? ⟨gb102, 3, none⟩ = some (.slice none 0 0) := (blk_cell BK102.out 3).trans rfl; have hfz8_0 := blk_frozen BK102.out 0; have hfz8_1 := blk_frozen BK102.out 1; have hfz8_2 := blk_frozen BK102.out 2; have hfz8_3 := blk_frozen BK102.out 3) | ((with_reducible refine gate_callee (f := 16) rfl ?_); refine goesL_ (some 16) rfl rfl Try.func16 (by kernel_rfl) rfl #[.agg #[.int .i64 ((rd_T26 l0 x11_1).f0), .int .u64 ((rd_T26 l0 x11_1).f1), .slice A101_2 ((rd_T26 l0 x11_1).f2).length c101_2, .slice A101_3 ((rd_T26 l0 x11_1).f3).length c101_3]] rfl (by (try simp only [List.map_toArray, List.map_cons, List.map_nil]); first | done | rfl | (simp only [List.length_drop, List.length_take]; rfl)) ?_; (with_reducible refine (term_Check.calls k1 ((rd_T26 l0 x11_1).f0) ((rd_T26 l0 x11_1).f1) _ _ ((rd_T26 l0 x11_1).f2) _ _ ((rd_T26 l0 x11_1).f3) t103 _ ?side1 ?side2 ?side3 ?side4 A5.out).mono ?_); (case side1 => exact Kd.C_below HR101_2.out (by repeat (first | (with_reducible first | exact HB.out | apply below_alloc | apply pw_below_drewN | apply below_drew1 | refine below_set ?_ GE102.out) | exact HB.out))); (case side2 => exact HC101_2.out); (case side3 => exact Kd.C_below HR101_3.out (by repeat (first | (with_reducible first | exact HB.out | apply below_alloc | apply pw_below_drewN | apply below_drew1 | refine below_set ?_ GE102.out) | exact HB.out))); (case side4 => exact HC101_3.out); rintro e w9 ⟨rfl, hb⟩; refine ⟨_, rfl, ?_⟩; have n0_ := Aside0.mk (blk_below (g := gb102) (o := .cells #[.int .i64 ((rd_T26 l0 x11_1).f0), .int .u64 ((rd_T26 l0 x11_1).f1), .slice A101_2 ((rd_T26 l0 x11_1).f2).length c101_2, .slice A101_3 ((rd_T26 l0 x11_1).f3).length c101_3] 26 (0, 0)) (by (with_reducible repeat (first | refine blk_drewN ?_ _ | refine blk_drew ?_ | refine blk_alloc ?_ _)); refine blk_put (cs := #[.int .i64 ((rd_T26 l0 x11_1).f0), .int .u64 ((rd_T26 l0 x11_1).f1), .slice A101_2 ((rd_T26 l0 x11_1).f2).length c101_2, .slice none 0 0]) ?_ 3 _ rfl; (with_reducible repeat (first | refine blk_drewN ?_ _ | refine blk_drew ?_ | refine blk_alloc ?_ _)); refine blk_put (cs := #[.int .i64 ((rd_T26 l0 x11_1).f0), .int .u64 ((rd_T26 l0 x11_1).f1), .slice none 0 0, .slice none 0 0]) ?_ 2 _ rfl; (with_reducible repeat (first | refine blk_drewN ?_ _ | refine blk_drew ?_ | refine blk_alloc ?_ _)); refine blk_put (cs := #[.int .i64 ((rd_T26 l0 x11_1).f0), .int .u64 0, .slice none 0 0, .slice none 0 0]) ?_ 1 _ rfl; (with_reducible repeat (first | refine blk_drewN ?_ _ | refine blk_drew ?_ | refine blk_alloc ?_ _)); refine blk_put (cs := #[.int .i64 0, .int .u64 0, .slice none 0 0, .slice none 0 0]) ?_ 0 _ rfl; (with_reducible repeat (first | refine blk_drewN ?_ _ | refine blk_drew ?_ | refine blk_alloc ?_ _)); exact BK102.out) hb); have n1_ := Aside0.mk (below_step (by repeat (first | (with_reducible first | exact HB.out | apply below_alloc | apply pw_below_drewN | apply below_drew1 | refine below_set ?_ GE102.out) | exact HB.out)) hb); clear BK102; clear HB; have BK102 := n0_; have HB := n1_; clear n0_ n1_; (try clear hb); (try clear hb2); (try clear hk); (try clear hi)))
       go_roundg k1
       case measure => have := HK1.out; omega
       case rel => exact ⟨(wrap64 (x11_1 + 1)), (by first | rfl | (simp; done) | (simp [*]; done)), H', ⟨by have := HK1.out; omega⟩, ⟨by repeat (first | (with_reducible first | exact HB.out | apply below_alloc | apply pw_below_drewN | apply below_drew1 | refine below_set ?_ GE102.out) | exact HB.out)⟩⟩
      ·rw [if_neg c6] at H
       have c6b0 : (t103 == 0) = false := beq_eq_false_iff_ne.mpr c6
       have c6b1 : (t103 != 0) = true := bne_iff_ne.mpr c6
       obtain rfl := Option.some.inj H
       have p101 : 0 ≤ (x11_1 : Int) := of_decide_eq_true (by first | (with_reducible assumption) | assumption)
       have q101 : x11_1 < (l0.length : Int) := of_decide_eq_true (by first | (with_reducible assumption) | assumption)
       obtain ⟨ad101, A101_2, c101_2, A101_3, c101_3, e101, hx101_0, hx101_1, hx101_2, hx101_3, hl101_2, hi101_2, hl101_3, hi101_3⟩ := at_T26 HR0.out x11_1 p101 q101
       cases e101
       replace hx101_0 := (HB.out.cell (World.block_lt_of_cell? w _ hx101_0)).trans hx101_0
       replace hx101_1 := (HB.out.cell (World.block_lt_of_cell? w _ hx101_1)).trans hx101_1
       replace hx101_2 := (HB.out.cell (World.block_lt_of_cell? w _ hx101_2)).trans hx101_2
       replace hx101_3 := (HB.out.cell (World.block_lt_of_cell? w _ hx101_3)).trans hx101_3
       have HR101_2 := Aside0.mk hi101_2
       have HC101_2 := Aside0.mk hl101_2
       clear hi101_2 hl101_2
       have HR101_3 := Aside0.mk hi101_3
       have HC101_3 := Aside0.mk hl101_3
       clear hi101_3 hl101_3
       replace p101 := eq_true p101
       replace q101 := eq_true q101
       go_wp2_with (first | ((with_reducible refine gate_dst (N := 5) rfl ?_); refine box_event ?hg (N := 5) ?hd (cs := #[.int .i64 0, .int .u64 0, .slice none 0 0, .slice none 0 0]) (t := 26) ?hr ?_; (case hd => rfl); (case hg => rfl); (case hr => first | (go_simp; done) | (go_simp; rfl)); intro gb102 hg w10 hbox hb; have n0_ := Aside0.mk (below_step (by repeat (first | (with_reducible first | exact HB.out | apply below_alloc | apply pw_below_drewN | apply below_drew1) | exact HB.out)) hb); have n1_ := Aside0.mk (hbox); have n2_ := Aside0.mk ((by rw [hg]; exact (below_size (by repeat (first | (with_reducible first | exact HB.out | apply below_alloc | apply pw_below_drewN | apply below_drew1) | exact HB.out))) : w.heap.size ≤ gb102)); have n3_ := Aside0.mk ((by rw [hg]; exact (below_size (by repeat (first | (with_reducible first | exact HB.out | apply below_alloc | apply pw_below_drewN | apply below_drew1) | exact HB.out))) : w.heap.size ≤ gb102)); clear HB; have HB := n0_; have BK102 := n1_; have GW102 := n2_; have GE102 := n3_; clear n0_ n1_ n2_ n3_; clear hb hbox hg; have hcz11_0 : w10.cell? ⟨gb102, 0, none⟩ = some (.int .i64 0) := (blk_cell BK102.out 0).trans rfl; have hcz11_1 : w10.cell? ⟨gb102, 1, none⟩ = some (.int .u64 0) := (blk_cell BK102.out 1).trans rfl; have hcz11_2 : w10.cell? ⟨gb102, 2, none⟩ = some (.slice none 0 0) := (blk_cell BK102.out 2).trans rfl; have hcz11_3 : w10.cell? ⟨gb102, 3, none⟩ = some (.slice none 0 0) := (blk_cell BK102.out 3).trans rfl; have hfz11_0 := blk_frozen BK102.out 0; have hfz11_1 := blk_frozen BK102.out 1; have hfz11_2 := blk_frozen BK102.out 2; have hfz11_3 := blk_frozen BK102.out 3) | ((with_reducible refine gate_callee (f := 16) rfl ?_); refine goesL_ (some 16) rfl rfl Try.func16 (by kernel_rfl) rfl #[.agg #[.int .i64 ((rd_T26 l0 x11_1).f0), .int .u64 ((rd_T26 l0 x11_1).f1), .slice A101_2 ((rd_T26 l0 x11_1).f2).length c101_2, .slice A101_3 ((rd_T26 l0 x11_1).f3).length c101_3]] rfl (by (try simp only [List.map_toArray, List.map_cons, List.map_nil]); first | done | rfl | (simp only [List.length_drop, List.length_take]; rfl)) ?_; (with_reducible refine (term_Check.calls k1 ((rd_T26 l0 x11_1).f0) ((rd_T26 l0 x11_1).f1) _ _ ((rd_T26 l0 x11_1).f2) _ _ ((rd_T26 l0 x11_1).f3) t103 _ ?side1 ?side2 ?side3 ?side4 A5.out).mono ?_); (case side1 => exact Kd.C_below HR101_2.out (by repeat (first | (with_reducible first | exact HB.out | apply below_alloc | apply pw_below_drewN | apply below_drew1 | refine below_set ?_ GE102.out) | exact HB.out))); (case side2 => exact HC101_2.out); (case side3 => exact Kd.C_below HR101_3.out (by repeat (first | (with_reducible first | exact HB.out | apply below_alloc | apply pw_below_drewN | apply below_drew1 | refine below_set ?_ GE102.out) | exact HB.out))); (case side4 => exact HC101_3.out); rintro e w12 ⟨rfl, hb⟩; refine ⟨_, rfl, ?_⟩; have n0_ := Aside0.mk (blk_below (g := gb102) (o := .cells #[.int .i64 ((rd_T26 l0 x11_1).f0), .int .u64 ((rd_T26 l0 x11_1).f1), .slice A101_2 ((rd_T26 l0 x11_1).f2).length c101_2, .slice A101_3 ((rd_T26 l0 x11_1).f3).length c101_3] 26 (0, 0)) (by (with_reducible repeat (first | refine blk_drewN ?_ _ | refine blk_drew ?_ | refine blk_alloc ?_ _)); refine blk_put (cs := #[.int .i64 ((rd_T26 l0 x11_1).f0), .int .u64 ((rd_T26 l0 x11_1).f1), .slice A101_2 ((rd_T26 l0 x11_1).f2).length c101_2, .slice none 0 0]) ?_ 3 _ rfl; (with_reducible repeat (first | refine blk_drewN ?_ _ | refine blk_drew ?_ | refine blk_alloc ?_ _)); refine blk_put (cs := #[.int .i64 ((rd_T26 l0 x11_1).f0), .int .u64 ((rd_T26 l0 x11_1).f1), .slice none 0 0, .slice none 0 0]) ?_ 2 _ rfl; (with_reducible repeat (first | refine blk_drewN ?_ _ | refine blk_drew ?_ | refine blk_alloc ?_ _)); refine blk_put (cs := #[.int .i64 ((rd_T26 l0 x11_1).f0), .int .u64 0, .slice none 0 0, .slice none 0 0]) ?_ 1 _ rfl; (with_reducible repeat (first | refine blk_drewN ?_ _ | refine blk_drew ?_ | refine blk_alloc ?_ _)); refine blk_put (cs := #[.int .i64 0, .int .u64 0, .slice none 0 0, .slice none 0 0]) ?_ 0 _ rfl; (with_reducible repeat (first | refine blk_drewN ?_ _ | refine blk_drew ?_ | refine blk_alloc ?_ _)); exact BK102.out) hb); have n1_ := Aside0.mk (below_step (by repeat (first | (with_reducible first | exact HB.out | apply below_alloc | apply pw_below_drewN | apply below_drew1 | refine below_set ?_ GE102.out) | exact HB.out)) hb); clear BK102; clear HB; have BK102 := n0_; have HB := n1_; clear n0_ n1_; (try clear hb); (try clear hb2); (try clear hk); (try clear hi)))
       go_ret
       exact ⟨by first | rfl | (simp [errW_none, errW_some] <;> rfl) | (simp [*, errW_none, errW_some] <;> rfl), by repeat (first | (with_reducible first | exact HB.out | apply below_alloc | apply pw_below_drewN | apply below_drew1 | refine below_set ?_ GE102.out) | exact HB.out)⟩
     ·rw [if_neg c4] at H
      exact absurd H (by simp)
    ·rw [if_neg c3] at H
     exact absurd H (by simp)
   ·rw [if_neg c2] at H
    have c2b0 : decide (x11_1 < (l0.length : Int)) = false := decide_eq_false c2
    clear c2
    have H' := Aside0.mk H
    clear H
    go_wp2
    go_loopg [3, 23] k1 (fun kq v3 v23 w' => ∃ (x3_2 : Int) (x23_2 : Int), v3 = .int .i64 x3_2 ∧ v23 = .int .i64 x23_2 ∧ Aside0 (derive_right.l1 kq l0 x3_2 l0 (l0.length : Int) x23_2 = some r) ∧ Aside0 (kq ≤ k1) ∧ Aside0 (Below w.heap.size w w'))
    case atStart => exact ⟨(0), (0), (by first | rfl | (simp; done) | (simp [*]; done)), (by first | rfl | (simp; done) | (simp [*]; done)), H', ⟨Nat.le_refl _⟩, ⟨by repeat (first | (with_reducible first | exact HB.out | apply below_alloc | apply pw_below_drewN | apply below_drew1) | exact HB.out)⟩⟩
    case round =>
     clear H'
     (try clear c1);(try clear p1);(try clear q1);(try clear hx1);(try clear c2);(try clear c2b0);(try clear p2);(try clear c3);(try clear c3b0);(try clear c4);(try clear c4b0);(try clear c5);(try clear c6);(try clear c6b0);(try clear c6b1);(try clear p6);(try clear c10);(try clear p10);(try clear q10);(try clear hx10);(try clear hcz11_0);(try clear hcz11_1);(try clear hcz11_2);(try clear hcz11_3);(try clear hcz8_0);(try clear hcz8_1);(try clear hcz8_2);(try clear hcz8_3);(try clear hfz11_0);(try clear hfz11_1);(try clear hfz11_2);(try clear hfz11_3);(try clear hfz8_0);(try clear hfz8_1);(try clear hfz8_2);(try clear hfz8_3);(try clear hx101_0);(try clear hx101_1);(try clear hx101_2);(try clear hx101_3);(try clear p101);(try clear q101)
     obtain ⟨x3_2, x23_2, rfl, rfl, HA, HK2, HB⟩ := hrel
     cases gk with
     | zero => exact absurd HA.out (by simp [derive_right.l1])
     | succ k2 =>
      have H := HA.out
      clear HA
      simp only [derive_right.l1] at H
      by_cases c13 : x23_2 < (l0.length : Int)
      ·rw [if_pos c13] at H
       have c13b0 : decide (x23_2 < (l0.length : Int)) = true := decide_eq_true c13
       clear c13
       by_cases c14 : 0 ≤ x23_2
       ·rw [if_pos c14] at H
        have c14b0 : decide (0 ≤ x23_2) = true := decide_eq_true c14
        clear c14
        by_cases c15 : x23_2 < (l0.length : Int)
        ·rw [if_pos c15] at H
         have c15b0 : decide (x23_2 < (l0.length : Int)) = true := decide_eq_true c15
         clear c15
         replace H := Option.bind_eq_some_iff.mp H
         obtain ⟨t106, A160, H⟩ := H
         replace H : (if (wrap64 (x3_2 + (t106.length : Int))) > 2000 then (some 4) else (derive_right.l1 k2 l0 (wrap64 (x3_2 + (t106.length : Int))) l0 (l0.length : Int) (wrap64 (x23_2 + 1)))) = some r := H
         have A16 := Aside0.mk A160
         clear A160
         by_cases c17 : (wrap64 (x3_2 + (t106.length : Int))) > 2000
         ·rw [if_pos c17] at H
          have c17b0 : decide (2000 < (wrap64 (x3_2 + (t106.length : Int)))) = true := decide_eq_true c17
          clear c17
          obtain rfl := Option.some.inj H
          have p104 : 0 ≤ (x23_2 : Int) := of_decide_eq_true (by first | (with_reducible assumption) | assumption)
          have q104 : x23_2 < (l0.length : Int) := of_decide_eq_true (by first | (with_reducible assumption) | assumption)
          obtain ⟨ad104, A104_2, c104_2, A104_3, c104_3, e104, hx104_0, hx104_1, hx104_2, hx104_3, hl104_2, hi104_2, hl104_3, hi104_3⟩ := at_T26 HR0.out x23_2 p104 q104
          cases e104
          replace hx104_0 := (HB.out.cell (World.block_lt_of_cell? w _ hx104_0)).trans hx104_0
          replace hx104_1 := (HB.out.cell (World.block_lt_of_cell? w _ hx104_1)).trans hx104_1
          replace hx104_2 := (HB.out.cell (World.block_lt_of_cell? w _ hx104_2)).trans hx104_2
          replace hx104_3 := (HB.out.cell (World.block_lt_of_cell? w _ hx104_3)).trans hx104_3
          have HR104_2 := Aside0.mk hi104_2
          have HC104_2 := Aside0.mk hl104_2
          clear hi104_2 hl104_2
          have HR104_3 := Aside0.mk hi104_3
          have HC104_3 := Aside0.mk hl104_3
          clear hi104_3 hl104_3
          replace p104 := eq_true p104
          replace q104 := eq_true q104
          go_wp2_with (first | ((with_reducible refine gate_dst (N := 8) rfl ?_); refine box_event ?hg (N := 8) ?hd (cs := #[.int .i64 0, .int .u64 0, .slice none 0 0, .slice none 0 0]) (t := 26) ?hr ?_; (case hd => rfl); (case hg => rfl); (case hr => first | (go_simp; done) | (go_simp; rfl)); intro gb105 hg w18 hbox hb; have n0_ := Aside0.mk (below_step (by repeat (first | (with_reducible first | exact HB.out | apply below_alloc | apply pw_below_drewN | apply below_drew1) | exact HB.out)) hb); have n1_ := Aside0.mk (hbox); have n2_ := Aside0.mk ((by rw [hg]; exact (below_size (by repeat (first | (with_reducible first | exact HB.out | apply below_alloc | apply pw_below_drewN | apply below_drew1) | exact HB.out))) : w.heap.size ≤ gb105)); have n3_ := Aside0.mk ((by rw [hg]; exact (below_size (by repeat (first | (with_reducible first | exact HB.out | apply below_alloc | apply pw_below_drewN | apply below_drew1) | exact HB.out))) : w.heap.size ≤ gb105)); clear HB; have HB := n0_; have BK105 := n1_; have GW105 := n2_; have GE105 := n3_; clear n0_ n1_ n2_ n3_; clear hb hbox hg; have hcz19_0 : w18.cell? ⟨gb105, 0, none⟩ = some (.int .i64 0) := (blk_cell BK105.out 0).trans rfl; have hcz19_1 : w18.cell? ⟨gb105, 1, none⟩ = some (.int .u64 0) := (blk_cell BK105.out 1).trans rfl; have hcz19_2 : w18.cell? ⟨gb105, 2, none⟩ = some (.slice none 0 0) := (blk_cell BK105.out 2).trans rfl; have hcz19_3 : w18.cell? ⟨gb105, 3, none⟩ = some (.slice none 0 0) := (blk_cell BK105.out 3).trans rfl; have hfz19_0 := blk_frozen BK105.out 0; have hfz19_1 := blk_frozen BK105.out 1; have hfz19_2 := blk_frozen BK105.out 2; have hfz19_3 := blk_frozen BK105.out 3) | ((with_reducible refine gate_store (t := 26) (p := 8) rfl ?_); refine store_event (t := 26) (p := 8) (v := ?vo_w20) (w1 := ((((w18.setCell ⟨gb105, 0, none⟩ (.int .i64 ((rd_T26 l0 x23_2).f0))).setCell ⟨gb105, 1, none⟩ (.int .u64 ((rd_T26 l0 x23_2).f1))).setCell ⟨gb105, 2, none⟩ (.slice A104_2 ((rd_T26 l0 x23_2).f2).length c104_2)).setCell ⟨gb105, 3, none⟩ (.slice A104_3 ((rd_T26 l0 x23_2).f3).length c104_3))) ?hg ?ho ?hn ?hr ?_; (case ho => rfl); (case hg => rfl); (case hn => rfl); (case hr => first | (go_simp; done) | (go_simp; rfl)); intro w20 hw; have n0_ : Aside0 (w20.heap[gb105]? = some (.cells #[.int .i64 ((rd_T26 l0 x23_2).f0), .int .u64 ((rd_T26 l0 x23_2).f1), .slice A104_2 ((rd_T26 l0 x23_2).f2).length c104_2, .slice A104_3 ((rd_T26 l0 x23_2).f3).length c104_3] 26 (0, 0))) := ⟨(by rw [hw]; exact (by (with_reducible repeat (first | refine blk_drewN ?_ _ | refine blk_drew ?_ | refine blk_alloc ?_ _)); refine blk_put (cs := #[.int .i64 ((rd_T26 l0 x23_2).f0), .int .u64 ((rd_T26 l0 x23_2).f1), .slice A104_2 ((rd_T26 l0 x23_2).f2).length c104_2, .slice none 0 0]) ?_ 3 _ rfl; (with_reducible repeat (first | refine blk_drewN ?_ _ | refine blk_drew ?_ | refine blk_alloc ?_ _)); refine blk_put (cs := #[.int .i64 ((rd_T26 l0 x23_2).f0), .int .u64 ((rd_T26 l0 x23_2).f1), .slice none 0 0, .slice none 0 0]) ?_ 2 _ rfl; (with_reducible repeat (first | refine blk_drewN ?_ _ | refine blk_drew ?_ | refine blk_alloc ?_ _)); refine blk_put (cs := #[.int .i64 ((rd_T26 l0 x23_2).f0), .int .u64 0, .slice none 0 0, .slice none 0 0]) ?_ 1 _ rfl; (with_reducible repeat (first | refine blk_drewN ?_ _ | refine blk_drew ?_ | refine blk_alloc ?_ _)); refine blk_put (cs := #[.int .i64 0, .int .u64 0, .slice none 0 0, .slice none 0 0]) ?_ 0 _ rfl; (with_reducible repeat (first | refine blk_drewN ?_ _ | refine blk_drew ?_ | refine blk_alloc ?_ _)); exact BK105.out))⟩; have n1_ : Aside0 (Below w.heap.size w w20) := ⟨(by rw [hw]; exact (by repeat (first | (with_reducible first | exact HB.out | apply below_alloc | apply pw_below_drewN | apply below_drew1 | refine below_set ?_ GE105.out) | exact HB.out)))⟩; clear hw; clear BK105; clear HB; have BK105 := n0_; have HB := n1_; clear n0_ n1_; have hcz21_0 : w20.cell? ⟨gb105, 0, none⟩ = some (.int .i64 ((rd_T26 l0 x23_2).f0)) := (blk_cell BK105.out 0).trans rfl; have hcz21_1 : w20.cell? ⟨gb105, 1, none⟩ = some (.int .u64 ((rd_T26 l0 x23_2).f1)) := (blk_cell BK105.out 1).trans rfl; have hcz21_2 : w20.cell? ⟨gb105, 2, none⟩ = some (.slice A104_2 ((rd_T26 l0 x23_2).f2).length c104_2) := (blk_cell BK105.out 2).trans rfl; have hcz21_3 : w20.cell? ⟨gb105, 3, none⟩ = some (.slice A104_3 ((rd_T26 l0 x23_2).f3).length c104_3) := (blk_cell BK105.out 3).trans rfl; have hfz21_0 := blk_frozen BK105.out 0; have hfz21_1 := blk_frozen BK105.out 1; have hfz21_2 := blk_frozen BK105.out 2; have hfz21_3 := blk_frozen BK105.out 3) | ((with_reducible refine gate_callee (f := 39) rfl ?_); refine goesL_ (some 29) rfl rfl Try.func39 (by kernel_rfl) rfl #[.agg #[.int .i64 ((rd_T26 l0 x23_2).f0), .int .u64 ((rd_T26 l0 x23_2).f1), .slice A104_2 ((rd_T26 l0 x23_2).f2).length c104_2, .slice A104_3 ((rd_T26 l0 x23_2).f3).length c104_3]] rfl (by (try simp only [List.map_toArray, List.map_cons, List.map_nil]); first | done | rfl | (simp only [List.length_drop, List.length_take]; rfl)) ?_; (with_reducible refine (term_Parts.calls ((rd_T26 l0 x23_2).f0) ((rd_T26 l0 x23_2).f1) (fun k_ => k_ < w.heap.size) _ _ ((rd_T26 l0 x23_2).f2) (fun k_ => k_ < w.heap.size) _ _ ((rd_T26 l0 x23_2).f3) t106 _ ?side1 ?side2 A16.out).mono ?_); (case side1 => exact Kd.V_mk HC104_2.out (Kd.F_below (Kd.C_F (Kd.heap_int .u8) HR104_2.out) (by repeat (first | (with_reducible first | exact HB.out | apply below_alloc | apply pw_below_drewN | apply below_drew1 | refine below_set ?_ GE105.out) | exact HB.out)))); (case side2 => exact Kd.V_mk HC104_3.out (Kd.F_below (Kd.C_F k26_heap HR104_3.out) (by repeat (first | (with_reducible first | exact HB.out | apply below_alloc | apply pw_below_drewN | apply below_drew1 | refine below_set ?_ GE105.out) | exact HB.out)))); rintro e w22 ⟨v107, rfl, ho0, hb⟩; refine ⟨_, rfl, ?_⟩; have n0_ := Aside0.mk (Kd.N_lower (Kd.N_mono (ok' := fun k_ => k_ ≠ gb105) ho0 (fun k_ hk_ => Or.elim hk_ (fun hs_ => Or.elim hs_ (fun hs_ => fun e_ => Nat.not_le.2 hs_ (by rw [e_]; exact GW105.out)) (fun hs_ => fun e_ => Nat.not_le.2 hs_ (by rw [e_]; exact GW105.out))) (fun hn_ => (Kd.freshB (g := gb105) (o := .cells #[.int .i64 ((rd_T26 l0 x23_2).f0), .int .u64 ((rd_T26 l0 x23_2).f1), .slice A104_2 ((rd_T26 l0 x23_2).f2).length c104_2, .slice A104_3 ((rd_T26 l0 x23_2).f3).length c104_3] 26 (0, 0)) (by (with_reducible repeat (first | refine blk_drewN ?_ _ | refine blk_drew ?_ | refine blk_alloc ?_ _)); exact BK105.out) k_ hn_)))) (below_size (by repeat (first | (with_reducible first | exact HB.out | apply below_alloc | apply pw_below_drewN | apply below_drew1 | refine below_set ?_ GE105.out) | exact HB.out)))); have n1_ := Aside0.mk (blk_below (g := gb105) (o := .cells #[.int .i64 ((rd_T26 l0 x23_2).f0), .int .u64 ((rd_T26 l0 x23_2).f1), .slice A104_2 ((rd_T26 l0 x23_2).f2).length c104_2, .slice A104_3 ((rd_T26 l0 x23_2).f3).length c104_3] 26 (0, 0)) (by (with_reducible repeat (first | refine blk_drewN ?_ _ | refine blk_drew ?_ | refine blk_alloc ?_ _)); exact BK105.out) hb); have n2_ := Aside0.mk (below_step (by repeat (first | (with_reducible first | exact HB.out | apply below_alloc | apply pw_below_drewN | apply below_drew1 | refine below_set ?_ GE105.out) | exact HB.out)) hb); clear BK105; clear HB; have HO108 := n0_; have BK105 := n1_; have HB := n2_; clear n0_ n1_ n2_; (try clear hb); (try clear hb2); (try clear hk); (try clear hi); (try clear ho0); obtain ⟨Ao23, co23, eo23⟩ := Kd.N_slice HO108.out; subst eo23))
          go_ret
          exact ⟨by first | rfl | (simp [errW_none, errW_some] <;> rfl) | (simp [*, errW_none, errW_some] <;> rfl), by repeat (first | (with_reducible first | exact HB.out | apply below_alloc | apply pw_below_drewN | apply below_drew1 | refine below_set ?_ GE105.out) | exact HB.out)⟩
         ·rw [if_neg c17] at H
          have c17b0 : decide (2000 < (wrap64 (x3_2 + (t106.length : Int)))) = false := decide_eq_false c17
          clear c17
          have H' := Aside0.mk H
          clear H
          have p104 : 0 ≤ (x23_2 : Int) := of_decide_eq_true (by first | (with_reducible assumption) | assumption)
          have q104 : x23_2 < (l0.length : Int) := of_decide_eq_true (by first | (with_reducible assumption) | assumption)
          obtain ⟨ad104, A104_2, c104_2, A104_3, c104_3, e104, hx104_0, hx104_1, hx104_2, hx104_3, hl104_2, hi104_2, hl104_3, hi104_3⟩ := at_T26 HR0.out x23_2 p104 q104
          cases e104
          replace hx104_0 := (HB.out.cell (World.block_lt_of_cell? w _ hx104_0)).trans hx104_0
          replace hx104_1 := (HB.out.cell (World.block_lt_of_cell? w _ hx104_1)).trans hx104_1
          replace hx104_2 := (HB.out.cell (World.block_lt_of_cell? w _ hx104_2)).trans hx104_2
          replace hx104_3 := (HB.out.cell (World.block_lt_of_cell? w _ hx104_3)).trans hx104_3
          have HR104_2 := Aside0.mk hi104_2
          have HC104_2 := Aside0.mk hl104_2
          clear hi104_2 hl104_2
          have HR104_3 := Aside0.mk hi104_3
          have HC104_3 := Aside0.mk hl104_3
          clear hi104_3 hl104_3
          replace p104 := eq_true p104
          replace q104 := eq_true q104
          go_wp2_with (first | ((with_reducible refine gate_dst (N := 8) rfl ?_); refine box_event ?hg (N := 8) ?hd (cs := #[.int .i64 0, .int .u64 0, .slice none 0 0, .slice none 0 0]) (t := 26) ?hr ?_; (case hd => rfl); (case hg => rfl); (case hr => first | (go_simp; done) | (go_simp; rfl)); intro gb105 hg w24 hbox hb; have n0_ := Aside0.mk (below_step (by repeat (first | (with_reducible first | exact HB.out | apply below_alloc | apply pw_below_drewN | apply below_drew1) | exact HB.out)) hb); have n1_ := Aside0.mk (hbox); have n2_ := Aside0.mk ((by rw [hg]; exact (below_size (by repeat (first | (with_reducible first | exact HB.out | apply below_alloc | apply pw_below_drewN | apply below_drew1) | exact HB.out))) : w.heap.size ≤ gb105)); have n3_ := Aside0.mk ((by rw [hg]; exact (below_size (by repeat (first | (with_reducible first | exact HB.out | apply below_alloc | apply pw_below_drewN | apply below_drew1) | exact HB.out))) : w.heap.size ≤ gb105)); clear HB; have HB := n0_; have BK105 := n1_; have GW105 := n2_; have GE105 := n3_; clear n0_ n1_ n2_ n3_; clear hb hbox hg; have hcz25_0 : w24.cell? ⟨gb105, 0, none⟩ = some (.int .i64 0) := (blk_cell BK105.out 0).trans rfl; have hcz25_1 : w24.cell? ⟨gb105, 1, none⟩ = some (.int .u64 0) := (blk_cell BK105.out 1).trans rfl; have hcz25_2 : w24.cell? ⟨gb105, 2, none⟩ = some (.slice none 0 0) := (blk_cell BK105.out 2).trans rfl; have hcz25_3 : w24.cell? ⟨gb105, 3, none⟩ = some (.slice none 0 0) := (blk_cell BK105.out 3).trans rfl; have hfz25_0 := blk_frozen BK105.out 0; have hfz25_1 := blk_frozen BK105.out 1; have hfz25_2 := blk_frozen BK105.out 2; have hfz25_3 := blk_frozen BK105.out 3) | ((with_reducible refine gate_store (t := 26) (p := 8) rfl ?_); refine store_event (t := 26) (p := 8) (v := ?vo_w26) (w1 := ((((w24.setCell ⟨gb105, 0, none⟩ (.int .i64 ((rd_T26 l0 x23_2).f0))).setCell ⟨gb105, 1, none⟩ (.int .u64 ((rd_T26 l0 x23_2).f1))).setCell ⟨gb105, 2, none⟩ (.slice A104_2 ((rd_T26 l0 x23_2).f2).length c104_2)).setCell ⟨gb105, 3, none⟩ (.slice A104_3 ((rd_T26 l0 x23_2).f3).length c104_3))) ?hg ?ho ?hn ?hr ?_; (case ho => rfl); (case hg => rfl); (case hn => rfl); (case hr => first | (go_simp; done) | (go_simp; rfl)); intro w26 hw; have n0_ : Aside0 (w26.heap[gb105]? = some (.cells #[.int .i64 ((rd_T26 l0 x23_2).f0), .int .u64 ((rd_T26 l0 x23_2).f1), .slice A104_2 ((rd_T26 l0 x23_2).f2).length c104_2, .slice A104_3 ((rd_T26 l0 x23_2).f3).length c104_3] 26 (0, 0))) := ⟨(by rw [hw]; exact (by (with_reducible repeat (first | refine blk_drewN ?_ _ | refine blk_drew ?_ | refine blk_alloc ?_ _)); refine blk_put (cs := #[.int .i64 ((rd_T26 l0 x23_2).f0), .int .u64 ((rd_T26 l0 x23_2).f1), .slice A104_2 ((rd_T26 l0 x23_2).f2).length c104_2, .slice none 0 0]) ?_ 3 _ rfl; (with_reducible repeat (first | refine blk_drewN ?_ _ | refine blk_drew ?_ | refine blk_alloc ?_ _)); refine blk_put (cs := #[.int .i64 ((rd_T26 l0 x23_2).f0), .int .u64 ((rd_T26 l0 x23_2).f1), .slice none 0 0, .slice none 0 0]) ?_ 2 _ rfl; (with_reducible repeat (first | refine blk_drewN ?_ _ | refine blk_drew ?_ | refine blk_alloc ?_ _)); refine blk_put (cs := #[.int .i64 ((rd_T26 l0 x23_2).f0), .int .u64 0, .slice none 0 0, .slice none 0 0]) ?_ 1 _ rfl; (with_reducible repeat (first | refine blk_drewN ?_ _ | refine blk_drew ?_ | refine blk_alloc ?_ _)); refine blk_put (cs := #[.int .i64 0, .int .u64 0, .slice none 0 0, .slice none 0 0]) ?_ 0 _ rfl; (with_reducible repeat (first | refine blk_drewN ?_ _ | refine blk_drew ?_ | refine blk_alloc ?_ _)); exact BK105.out))⟩; have n1_ : Aside0 (Below w.heap.size w w26) := ⟨(by rw [hw]; exact (by repeat (first | (with_reducible first | exact HB.out | apply below_alloc | apply pw_below_drewN | apply below_drew1 | refine below_set ?_ GE105.out) | exact HB.out)))⟩; clear hw; clear BK105; clear HB; have BK105 := n0_; have HB := n1_; clear n0_ n1_; have hcz27_0 : w26.cell? ⟨gb105, 0, none⟩ = some (.int .i64 ((rd_T26 l0 x23_2).f0)) := (blk_cell BK105.out 0).trans rfl; have hcz27_1 : w26.cell? ⟨gb105, 1, none⟩ = some (.int .u64 ((rd_T26 l0 x23_2).f1)) := (blk_cell BK105.out 1).trans rfl; have hcz27_2 : w26.cell? ⟨gb105, 2, none⟩ = some (.slice A104_2 ((rd_T26 l0 x23_2).f2).length c104_2) := (blk_cell BK105.out 2).trans rfl; have hcz27_3 : w26.cell? ⟨gb105, 3, none⟩ = some (.slice A104_3 ((rd_T26 l0 x23_2).f3).length c104_3) := (blk_cell BK105.out 3).trans rfl; have hfz27_0 := blk_frozen BK105.out 0; have hfz27_1 := blk_frozen BK105.out 1; have hfz27_2 := blk_frozen BK105.out 2; have hfz27_3 := blk_frozen BK105.out 3) | ((with_reducible refine gate_callee (f := 39) rfl ?_); refine goesL_ (some 29) rfl rfl Try.func39 (by kernel_rfl) rfl #[.agg #[.int .i64 ((rd_T26 l0 x23_2).f0), .int .u64 ((rd_T26 l0 x23_2).f1), .slice A104_2 ((rd_T26 l0 x23_2).f2).length c104_2, .slice A104_3 ((rd_T26 l0 x23_2).f3).length c104_3]] rfl (by (try simp only [List.map_toArray, List.map_cons, List.map_nil]); first | done | rfl | (simp only [List.length_drop, List.length_take]; rfl)) ?_; (with_reducible refine (term_Parts.calls ((rd_T26 l0 x23_2).f0) ((rd_T26 l0 x23_2).f1) (fun k_ => k_ < w.heap.size) _ _ ((rd_T26 l0 x23_2).f2) (fun k_ => k_ < w.heap.size) _ _ ((rd_T26 l0 x23_2).f3) t106 _ ?side1 ?side2 A16.out).mono ?_); (case side1 => exact Kd.V_mk HC104_2.out (Kd.F_below (Kd.C_F (Kd.heap_int .u8) HR104_2.out) (by repeat (first | (with_reducible first | exact HB.out | apply below_alloc | apply pw_below_drewN | apply below_drew1 | refine below_set ?_ GE105.out) | exact HB.out)))); (case side2 => exact Kd.V_mk HC104_3.out (Kd.F_below (Kd.C_F k26_heap HR104_3.out) (by repeat (first | (with_reducible first | exact HB.out | apply below_alloc | apply pw_below_drewN | apply below_drew1 | refine below_set ?_ GE105.out) | exact HB.out)))); rintro e w28 ⟨v107, rfl, ho0, hb⟩; refine ⟨_, rfl, ?_⟩; have n0_ := Aside0.mk (Kd.N_lower (Kd.N_mono (ok' := fun k_ => k_ ≠ gb105) ho0 (fun k_ hk_ => Or.elim hk_ (fun hs_ => Or.elim hs_ (fun hs_ => fun e_ => Nat.not_le.2 hs_ (by rw [e_]; exact GW105.out)) (fun hs_ => fun e_ => Nat.not_le.2 hs_ (by rw [e_]; exact GW105.out))) (fun hn_ => (Kd.freshB (g := gb105) (o := .cells #[.int .i64 ((rd_T26 l0 x23_2).f0), .int .u64 ((rd_T26 l0 x23_2).f1), .slice A104_2 ((rd_T26 l0 x23_2).f2).length c104_2, .slice A104_3 ((rd_T26 l0 x23_2).f3).length c104_3] 26 (0, 0)) (by (with_reducible repeat (first | refine blk_drewN ?_ _ | refine blk_drew ?_ | refine blk_alloc ?_ _)); exact BK105.out) k_ hn_)))) (below_size (by repeat (first | (with_reducible first | exact HB.out | apply below_alloc | apply pw_below_drewN | apply below_drew1 | refine below_set ?_ GE105.out) | exact HB.out)))); have n1_ := Aside0.mk (blk_below (g := gb105) (o := .cells #[.int .i64 ((rd_T26 l0 x23_2).f0), .int .u64 ((rd_T26 l0 x23_2).f1), .slice A104_2 ((rd_T26 l0 x23_2).f2).length c104_2, .slice A104_3 ((rd_T26 l0 x23_2).f3).length c104_3] 26 (0, 0)) (by (with_reducible repeat (first | refine blk_drewN ?_ _ | refine blk_drew ?_ | refine blk_alloc ?_ _)); exact BK105.out) hb); have n2_ := Aside0.mk (below_step (by repeat (first | (with_reducible first | exact HB.out | apply below_alloc | apply pw_below_drewN | apply below_drew1 | refine below_set ?_ GE105.out) | exact HB.out)) hb); clear BK105; clear HB; have HO108 := n0_; have BK105 := n1_; have HB := n2_; clear n0_ n1_ n2_; (try clear hb); (try clear hb2); (try clear hk); (try clear hi); (try clear ho0); obtain ⟨Ao29, co29, eo29⟩ := Kd.N_slice HO108.out; subst eo29))
          go_roundg k2
          case measure => have := HK1.out; have := HK2.out; omega
          case rel => exact ⟨(wrap64 (x3_2 + (t106.length : Int))), (wrap64 (x23_2 + 1)), (by first | rfl | (simp; done) | (simp [*]; done)), (by first | rfl | (simp; done) | (simp [*]; done)), H', ⟨by have := HK1.out; have := HK2.out; omega⟩, ⟨by repeat (first | (with_reducible first | exact HB.out | apply below_alloc | apply pw_below_drewN | apply below_drew1 | refine below_set ?_ GE105.out) | exact HB.out)⟩⟩
        ·rw [if_neg c15] at H
         exact absurd H (by simp)
       ·rw [if_neg c14] at H
        exact absurd H (by simp)
      ·rw [if_neg c13] at H
       have c13b0 : decide (x23_2 < (l0.length : Int)) = false := decide_eq_false c13
       clear c13
       by_cases c30 : (l0.length : Int) > 300
       ·rw [if_pos c30] at H
        have c30b0 : decide (300 < (l0.length : Int)) = true := decide_eq_true c30
        have c30b1 : decide (300 < l0.length) = true := decide_eq_true (by omega)
        clear c30
        obtain rfl := Option.some.inj H
        go_wp2
        go_ret
        exact ⟨by first | rfl | (simp [errW_none, errW_some] <;> rfl) | (simp [*, errW_none, errW_some] <;> rfl), by repeat (first | (with_reducible first | exact HB.out | apply below_alloc | apply pw_below_drewN | apply below_drew1) | exact HB.out)⟩
       ·rw [if_neg c30] at H
        have c30b0 : decide (300 < (l0.length : Int)) = false := decide_eq_false c30
        have c30b1 : decide (300 < l0.length) = false := decide_eq_false (by omega)
        clear c30
        obtain rfl := Option.some.inj H
        go_wp2
        go_ret
        exact ⟨by first | rfl | (simp [errW_none, errW_some] <;> rfl) | (simp [*, errW_none, errW_some] <;> rfl), by repeat (first | (with_reducible first | exact HB.out | apply below_alloc | apply pw_below_drewN | apply below_drew1) | exact HB.out)⟩

end Go.Proofs.Ytgohmganimamcaa.PZ
/- derive.right: whether terms may be taken apart; the universe of what they are made of. -/
namespace Go.Proofs.Ytgohmganimamcaa.Term
set_option linter.unusedVariables false
set_option linter.unusedSimpArgs false
open Go.RowKit Go.Proofs.Ytgohmganimamcaa.Base Go.Proofs.Ytgohmganimamcaa.TlvPlain Go.Proofs.Ytgohmganimamcaa.Lo Go.Proofs.Ytgohmganimamcaa.RdPlain Go.Proofs.Ytgohmganimamcaa.Aid Go.Proofs.Ytgohmganimamcaa.PZ Go.Proofs.YtgohmganimamcaaW.PrintWords Go.Proofs.YtgohmganimamcaaW.PrintLast Go.Proofs.YtgohmganimamcaaW.PrintMore
/-- All that is in some terms. -/
def univT (l : List ST) : List ST := (l.map partsT).flatten
theorem parts_self (x : ST) : x ∈ partsT x := by rw [partsT_eq]; simp
theorem univ_mem {l : List ST} {y : ST} : y ∈ univT l ↔ ∃ x ∈ l, y ∈ partsT x := by
  unfold univT
  rw [List.mem_flatten]
  constructor
  · rintro ⟨s, hs, hy⟩
    obtain ⟨x, hx, rfl⟩ := List.mem_map.1 hs
    exact ⟨x, hx, hy⟩
  · rintro ⟨x, hx, hy⟩
    exact ⟨_, List.mem_map.2 ⟨x, hx, rfl⟩, hy⟩
mutual
theorem parts_kid : ∀ (x p k : ST), p ∈ partsT x → k ∈ p.f3 → k ∈ partsT x
  | ⟨a, n, d, ks⟩, p, k, hp, hk => by
    rw [partsT] at hp ⊢
    rcases List.mem_cons.1 hp with rfl | hp
    · refine List.mem_cons_of_mem _ ?_
      rw [partsTs_eq]
      exact List.mem_flatten.2 ⟨_, List.mem_map.2 ⟨k, hk, rfl⟩, parts_self k⟩
    · exact List.mem_cons_of_mem _ (parts_kids ks p k hp hk)
theorem parts_kids : ∀ (l : List ST) (p k : ST), p ∈ partsTs l → k ∈ p.f3 → k ∈ partsTs l
  | [], p, k, hp, _ => by rw [partsTs] at hp; cases hp
  | x :: l, p, k, hp, hk => by
    rw [partsTs] at hp ⊢
    rcases List.mem_append.1 hp with hp | hp
    · exact List.mem_append.2 (.inl (parts_kid x p k hp hk))
    · exact List.mem_append.2 (.inr (parts_kids l p k hp hk))
end
theorem parts_may : ∀ (d : Nat) (x : ST), mayT d x = true → wfT x → ∀ p ∈ partsT x, wfT p ∧ p.f3.length = kidT p.f0 := by
  intro d
  induction d with
  | zero => intro x h; rw [mayT] at h; cases h
  | succ d ih =>
    intro x h hw p hp
    obtain ⟨_, h2, _, _, _, _, h7⟩ := may_parts h
    rw [partsT_eq] at hp
    rcases List.mem_cons.1 hp with rfl | hp
    · exact ⟨hw, h2⟩
    · obtain ⟨s, hs, hp⟩ := List.mem_flatten.1 hp
      obtain ⟨k, hk, rfl⟩ := List.mem_map.1 hs
      exact ih k (h7 k hk) (((wfT_eq x).1 hw).2.2 k hk) p hp
theorem univ_ok {l : List ST} (hm : ∀ x ∈ l, mayT 8 x = true) (hw : ∀ x ∈ l, wfT x) : UnivD (univT l) := by
  intro y hy
  obtain ⟨x, hx, hy⟩ := univ_mem.1 hy
  obtain ⟨h1, h2⟩ := parts_may 8 x (hm x hx) (hw x hx) y hy
  refine ⟨h1, fun h5 => ?_, fun k hk => univ_mem.2 ⟨x, hx, parts_kid x y k hy hk⟩⟩
  rw [h2, h5]
  decide
theorem univ_self {l : List ST} : ∀ x ∈ l, x ∈ univT l := fun x hx => univ_mem.2 ⟨x, hx, parts_self x⟩
/-- Whether terms may be taken apart: the error. -/
def rightV (l : List ST) : Int := if l.all (fun x => mayT 8 x) = true then (if (univT l).length > 2000 then 4 else if l.length > 300 then 4 else 0) else 1
theorem right_l1 (l : List ST) (hl : l.length ≤ 9223372036854775807) (hw : ∀ x ∈ l, wfT x) (hm : ∀ x ∈ l, mayT 8 x = true) : ∀ (m i : Nat) (s : Nat), i + m = l.length → s ≤ 2000 → Ev (fun k => derive_right.l1 k l (s : Int) l (l.length : Int) (i : Int)) (if s + (univT (l.drop i)).length > 2000 then 4 else if l.length > 300 then 4 else 0) := by
  intro m
  induction m with
  | zero =>
    intro i s hi hs
    rw [List.drop_eq_nil_of_le (by omega)]
    refine Ev.step (fun k => by simp only [derive_right.l1]; rfl) (neg (by omega) ?_)
    have hz : ¬ (s + (univT ([] : List ST)).length > 2000) := by simp [univT]; omega
    rw [if_neg hz]
    by_cases h3 : l.length > 300
    · rw [if_pos h3]; exact pos (by omega) (now rfl)
    · rw [if_neg h3]; exact neg (by omega) (now rfl)
  | succ m ih =>
    intro i s hi hs
    have hlt : i < l.length := by omega
    have hu : univT (l.drop i) = partsT l[i] ++ univT (l.drop (i + 1)) := by rw [drop_cons _ _ hlt]; rfl
    have hp : partsV l[i] = partsT l[i] := by unfold partsV; rw [if_pos (hm _ (List.getElem_mem hlt))]
    have hpl := parts_len 8 l[i] (hm _ (List.getElem_mem hlt))
    refine Ev.step (fun k => by simp only [derive_right.l1]; rfl) (pos (by omega) (pos (by omega) (pos (by omega) ?_)))
    rw [rd_at l i hlt]
    have hf : term_Parts.f l[i].f0 l[i].f1 l[i].f2 l[i].f3 = some (partsT l[i]) := by
      unfold term_Parts.f
      rw [eta_T, if_pos ((wfB_iff _).2 (hw _ (List.getElem_mem hlt))), hp]
    refine bindSome hf ?_
    have hs1 : wrap64 ((s : Int) + ((partsT l[i]).length : Int)) = ((s + (partsT l[i]).length : Nat) : Int) := by rw [w64 (by omega) (by omega)]; omega
    rw [hs1, hu, List.length_append]
    by_cases hg : s + (partsT l[i]).length > 2000
    · rw [if_pos (by omega)]
      exact pos (by omega) (now rfl)
    · refine neg (by omega) ?_
      rw [show wrap64 ((i : Int) + 1) = ((i + 1 : Nat) : Int) from by rw [w64 (by omega) (by omega)]; omega]
      have h := ih (i + 1) (s + (partsT l[i]).length) (by omega) (by omega)
      rw [Nat.add_assoc] at h
      exact h
theorem right_ev (l : List ST) (hl : l.length ≤ 9223372036854775807) (hw : ∀ x ∈ l, wfT x) : Ev (fun k => derive_right.f k l) (rightV l) := by
  have loop : ∀ (m i : Nat), i + m = l.length → (∀ x ∈ l.take i, mayT 8 x = true) → Ev (fun k => derive_right.l0 k l 0 l (l.length : Int) (i : Int)) (rightV l) := by
    intro m
    induction m with
    | zero =>
      intro i hi hm
      rw [List.take_of_length_le (by omega)] at hm
      refine Ev.step (fun k => by simp only [derive_right.l0]; rfl) (neg (by omega) ?_)
      have h := right_l1 l hl hw hm l.length 0 0 (by omega) (by omega)
      rw [List.drop_zero, Nat.zero_add] at h
      unfold rightV
      rw [if_pos (List.all_eq_true.2 hm)]
      exact h
    | succ m ih =>
      intro i hi hm
      have hlt : i < l.length := by omega
      refine Ev.step (fun k => by simp only [derive_right.l0]; rfl) (pos (by omega) (pos (by omega) (pos (by omega) ?_)))
      rw [rd_at l i hlt]
      refine evBind (check_ev l[i]) ?_
      by_cases hx : mayT 8 l[i] = true
      · rw [if_pos hx]
        refine pos rfl ?_
        rw [show wrap64 ((i : Int) + 1) = ((i + 1 : Nat) : Int) from by rw [w64 (by omega) (by omega)]; omega]
        refine ih (i + 1) (by omega) (fun x h => ?_)
        rw [take_snoc l i hlt] at h
        rcases List.mem_append.1 h with h | h
        · exact hm x h
        · rw [List.mem_singleton.1 h]; exact hx
      · rw [if_neg hx]
        refine neg (by decide) (now ?_)
        unfold rightV
        rw [if_neg]
        intro h
        exact hx (List.all_eq_true.1 h _ (List.getElem_mem hlt))
  unfold derive_right.f
  exact loop l.length 0 (by omega) (by simp)
theorem right_c (l : List ST) (hw : ∀ x ∈ l, wfT x) (A : Option Addr) (c : Nat) (w : World) (hr : Kd.C k26 w A l.length l) (hc : l.length ≤ c) :
    Calls Try.prog 55 #[.slice A l.length c] w fun e w' => e = .returned (.int .i64 (rightV l)) ∧ Below w.heap.size w w' := by
  obtain ⟨k, hk⟩ := (right_ev l hr.2.1 hw).rounds
  exact derive_right.calls k A c l _ w hr hc hk
theorem rightV_ok {l : List ST} (h : rightV l = 0) : (∀ x ∈ l, mayT 8 x = true) ∧ (univT l).length ≤ 2000 ∧ l.length ≤ 300 := by
  unfold rightV at h
  split at h
  · next ha =>
    split at h
    · omega
    · split at h
      · omega
      · exact ⟨List.all_eq_true.1 ha, by omega, by omega⟩
  · omega
end Go.Proofs.Ytgohmganimamcaa.Term
/- derive.Closure and derive.Follows, whatever the terms. -/
namespace Go.Proofs.Ytgohmganimamcaa.Term
set_option linter.unusedVariables false
set_option linter.unusedSimpArgs false
open Go.RowKit Go.Proofs.Ytgohmganimamcaa.Base Go.Proofs.Ytgohmganimamcaa.TlvPlain Go.Proofs.Ytgohmganimamcaa.Lo Go.Proofs.Ytgohmganimamcaa.RdPlain Go.Proofs.Ytgohmganimamcaa.Aid Go.Proofs.Ytgohmganimamcaa.PZ Go.Proofs.YtgohmganimamcaaW.PrintWords Go.Proofs.YtgohmganimamcaaW.PrintLast Go.Proofs.YtgohmganimamcaaW.PrintMore
set_option maxHeartbeats 4000000 in
set_option maxRecDepth 100000 in
theorem closure_err {l : List ST} (hw : ∀ x ∈ l, wfT x) (hn : rightV l ≠ 0) (A : Option Addr) (c : Nat) (w : World) (hr : Kd.C k26 w A l.length l) (hc : l.length ≤ c) :
    Calls Try.prog 25 #[.slice A l.length c] w fun e w' => ∃ v, e = .returned (.tuple #[v, .int .i64 (rightV l)]) ∧ v = .slice none 0 0 ∧ Below w.heap.size w w' := by
  have HR := Aside0.mk (right_c l hw A c w hr hc)
  have hz : (rightV l == 0) = false := by simp [hn]
  obtain ⟨rv, hrv⟩ : ∃ r, rightV l = r := ⟨_, rfl⟩
  rw [hrv] at HR hz ⊢
  clear hn hr hw hrv
  go_enter Try.func25, Try.ntmps25
  go_wp2
  go_step3
  go_wp2_with (go_at_call 55; refine HR.out.mono ?_; rintro e w1 ⟨rfl, hb⟩; have HB1 := Aside0.mk hb; clear hb)
  try rw [Exit.noGoto_ret]
  go_ret2
  exact ⟨_, rfl, rfl, HB1.out⟩
def cloV (l : List ST) : List ST × Int := if rightV l = 0 then (closeD l, 0) else ([], rightV l)
theorem clo_n {P : Nat → Prop} {l : List ST} (hw : ∀ x ∈ l, wfT x) (A : Option Addr) (c : Nat) (w : World) (hr : Kd.C k26 w A l.length l) (hP : Kd.F k26 w P A l.length l) (hc : l.length ≤ c) :
    Calls Try.prog 25 #[.slice A l.length c] w fun e w' => ∃ v, e = .returned (.tuple #[v, .int .i64 (cloV l).2]) ∧ Kd.N k26 26 w' w.heap.size (fun k => P k ∨ w.heap.size ≤ k) v (cloV l).1 ∧ Below w.heap.size w w' := by
  unfold cloV
  by_cases h0 : rightV l = 0
  · rw [if_pos h0]
    obtain ⟨hm, hu, hl⟩ := rightV_ok h0
    have hr0 := right_c l hw A c w hr hc
    rw [h0] at hr0
    exact closure_c (univ_ok hm hw) hu univ_self A c w hr (Kd.F_bound hP) hc hr0
  · rw [if_neg h0]
    refine (closure_err hw h0 A c w hr hc).mono ?_
    rintro e w' ⟨v, rfl, rfl, hb⟩
    exact ⟨_, rfl, Kd.N_nil _ _ _ _ _, hb⟩
theorem clo_c {l : List ST} (hw : ∀ x ∈ l, wfT x) (A : Option Addr) (c : Nat) (w : World) (hr : Kd.C k26 w A l.length l) (hc : l.length ≤ c) :
    Calls Try.prog 25 #[.slice A l.length c] w fun e w' => ∃ v, e = .returned (.tuple #[v, .int .i64 (cloV l).2]) ∧ LsV w' (cloV l).1 v ∧ Below w.heap.size w w' := by
  refine (clo_n (P := fun k => k < w.heap.size) hw A c w hr (Kd.C_F k26_heap hr) hc).mono ?_
  rintro e w' ⟨v, rfl, hn, hb⟩
  exact ⟨v, rfl, ls_of hn, hb⟩
theorem close_wf {l : List ST} (hw : ∀ x ∈ l, wfT x) (h0 : rightV l = 0) : ∀ x ∈ closeD l, wfT x := by
  obtain ⟨hm, hu, hl⟩ := rightV_ok h0
  have hU := univ_ok hm hw
  have h1 : DI (univT l) (l.foldl putD []) := fold_di l [] ⟨List.nodup_nil, fun x hx => by cases hx⟩ univ_self
  obtain ⟨h2, _⟩ := closeN_fix hU 2001 _ h1 (by omega)
  exact fun x hx => (hU x (h2.2 x hx)).1
def folV (l : List ST) (t : ST) : Bool × Int := if rightV l = 0 then (if mayT 8 t = true then (madeT (closeD l) t, 0) else (false, 1)) else (false, rightV l)
set_option maxHeartbeats 4000000 in
set_option maxRecDepth 100000 in
theorem fol_c {l : List ST} (hw : ∀ x ∈ l, wfT x) {t : ST} (ht : wfT t) (A : Option Addr) (c : Nat) (T2 : Option Addr) (k2 : Nat) (T3 : Option Addr) (k3 : Nat) (w : World) (hr : Kd.C k26 w A l.length l) (hc : l.length ≤ c) (htr : RowsT w t T2 k2 T3 k3) :
    Calls Try.prog 29 #[.slice A l.length c, .agg #[.int .i64 t.f0, .int .u64 t.f1, .slice T2 t.f2.length k2, .slice T3 t.f3.length k3]] w fun e w' => e = .returned (.tuple #[.bool (folV l t).1, .int .i64 (folV l t).2]) ∧ Below w.heap.size w w' := by
  have hb0 := below_alloc (Below.refl w.heap.size w) (.cells #[.int .i64 t.f0, .int .u64 t.f1, .slice T2 t.f2.length k2, .slice T3 t.f3.length k3] 26)
  have HB := Aside0.mk hb0
  have H0 := Aside0.mk (show Blk (w.alloc (.cells #[.int .i64 t.f0, .int .u64 t.f1, .slice T2 t.f2.length k2, .slice T3 t.f3.length k3] 26)) w.heap.size 26 #[.int .i64 t.f0, .int .u64 t.f1, .slice T2 t.f2.length k2, .slice T3 t.f3.length k3] from blk_new _ _)
  have HTR := Aside0.mk (htr.below hb0)
  have HC := Aside0.mk (clo_c hw A c _ (Kd.C_below hr hb0) hc)
  have hu26 := Try.underlying26
  unfold folV
  by_cases h0 : rightV l = 0
  · have HWF := Aside0.mk (close_wf hw h0)
    have HT := Aside0.mk ht
    unfold cloV at HC
    rw [if_pos h0] at HC
    rw [if_pos h0]
    obtain ⟨L, hL⟩ : ∃ L, closeD l = L := ⟨_, rfl⟩
    rw [hL] at HC HWF ⊢
    clear hr htr hb0 hw ht h0 hL
    cases hm : mayT 8 t with
    | false =>
      have HCK := Aside0.mk (fun (W1 : World) (h : RowsT W1 t T2 k2 T3 k3) => check_c t T2 k2 T3 k3 W1 h)
      rw [hm, if_neg (by decide)] at HCK
      rw [if_neg (by decide)]
      clear hm
      go_enter Try.func29, Try.ntmps29
      go_wp2_with (first
        | (go_at_call 25; refine HC.out.mono ?_; rintro e w1 ⟨v, rfl, hl, hb⟩; have HB1 := Aside0.mk (below_step HB.out hb); have HTR1 := Aside0.mk (HTR.out.below hb); obtain ⟨x0, x1, x2, x3⟩ := four_cells (H0.out.below hb); clear hl hb)
        | (go_at_call 16; refine (HCK.out _ HTR1.out).mono ?_; rintro e w2 ⟨rfl, hb⟩; have HB2 := Aside0.mk (below_step HB1.out hb); clear hb))
      go_ret2
      exact ⟨rfl, HB2.out⟩
    | true =>
      have HCK := Aside0.mk (fun (W1 : World) (h : RowsT W1 t T2 k2 T3 k3) => check_c t T2 k2 T3 k3 W1 h)
      rw [hm, if_pos rfl] at HCK
      rw [if_pos rfl]
      clear hm
      go_enter Try.func29, Try.ntmps29
      go_wp2_with (first
        | (go_at_call 25; refine HC.out.mono ?_; rintro e w1 ⟨v, rfl, hl, hb⟩; obtain ⟨AL, cL, rfl, hl1, hl2⟩ := hl; have HLL := Aside0.mk (And.intro hl1 hl2); have HB1 := Aside0.mk (below_step HB.out hb); have HTR1 := Aside0.mk (HTR.out.below hb); have H01 := Aside0.mk (H0.out.below hb); obtain ⟨x0, x1, x2, x3⟩ := four_cells H01.out; clear hl1 hl2 hb)
        | (go_at_call 16; refine (HCK.out _ HTR1.out).mono ?_; rintro e w2 ⟨rfl, hb⟩; have HB2 := Aside0.mk (below_step HB1.out hb); have HTR2 := Aside0.mk (HTR1.out.below hb); have HLC := Aside0.mk (Kd.C_below HLL.out.2 hb); obtain ⟨z0, z1, z2, z3⟩ := four_cells (H01.out.below hb); clear hb)
        | (go_at_call 61; refine (made_c HWF.out _ t (Nat.lt_succ_self _) HT.out AL cL T2 k2 T3 k3 _ HLC.out HLL.out.1 HTR2.out).mono ?_; rintro e w3 ⟨rfl, hb⟩; have HB3 := Aside0.mk (below_step HB2.out hb); clear hb))
      go_ret2
      exact ⟨rfl, HB3.out⟩
  · have hz : (rightV l == 0) = false := by simp [h0]
    unfold cloV at HC
    rw [if_neg h0] at HC
    rw [if_neg h0]
    obtain ⟨rv, hrv⟩ : ∃ r, rightV l = r := ⟨_, rfl⟩
    rw [hrv] at HC hz ⊢
    clear hr htr hb0 hw ht h0 hrv
    go_enter Try.func29, Try.ntmps29
    go_wp2_with (go_at_call 25; refine HC.out.mono ?_; rintro e w1 ⟨v, rfl, hl, hb⟩; have HB1 := Aside0.mk (below_step HB.out hb); clear hl hb)
    go_ret2
    exact ⟨rfl, HB1.out⟩
end Go.Proofs.Ytgohmganimamcaa.Term
/- derive.Follows in the printed functions' form. -/
namespace Go.Proofs.Ytgohmganimamcaa.PZ
set_option linter.unusedVariables false
open Go.RowKit Go.Proofs.YtgohmganimamcaaW.PrintWords Go.Proofs.Ytgohmganimamcaa.Term
end Go.Proofs.Ytgohmganimamcaa.PZ
/- Towards layer 6's example: what stands in a block while others come up beside it. -/
namespace Go.Proofs.Ytgohmganimamcaa.Term
set_option linter.unusedVariables false
set_option linter.unusedSimpArgs false
open Go.RowKit Go.Proofs.Ytgohmganimamcaa.Base Go.Proofs.Ytgohmganimamcaa.TlvPlain Go.Proofs.Ytgohmganimamcaa.Lo Go.Proofs.Ytgohmganimamcaa.RdPlain Go.Proofs.Ytgohmganimamcaa.Aid Go.Proofs.Ytgohmganimamcaa.PZ Go.Proofs.YtgohmganimamcaaW.PrintWords Go.Proofs.YtgohmganimamcaaW.PrintLast Go.Proofs.YtgohmganimamcaaW.PrintMore
def exA : ST := ⟨3, 0, [97], []⟩
def exK : ST := ⟨2, 7, [], []⟩
def exX : ST := ⟨5, 1, [], [⟨3, 0, [97], []⟩, ⟨2, 7, [], []⟩]⟩
theorem wf_exA : wfT exA := (wfB_iff _).1 (by decide +kernel)
theorem wf_exK : wfT exK := (wfB_iff _).1 (by decide +kernel)
theorem wf_exX : wfT exX := (wfB_iff _).1 (by decide +kernel)
theorem wf_exl1 : ∀ x ∈ [exX], wfT x := fun x h => by
  simp only [List.mem_singleton] at h
  rw [h]; exact wf_exX
theorem wf_exl2 : ∀ x ∈ [exX, exK], wfT x := fun x h => by
  simp only [List.mem_cons, List.not_mem_nil, or_false] at h
  rcases h with rfl | rfl
  · exact wf_exX
  · exact wf_exK
theorem fol_ex1 : folV [exX] exA = (false, 0) := by decide +kernel
theorem fol_ex2 : folV [exX, exK] exA = (true, 0) := by decide +kernel
/-- What a mark does: the cells stay. -/
theorem frz_other (w : World) {p : Addr} {k : Nat} (h : p.block ≠ k) (n : Nat) : (w.freeze p n).heap[k]? = w.heap[k]? := by
  unfold World.freeze
  split
  · rfl
  · show (w.heap.modify p.block _)[k]? = _
    rw [Array.getElem?_modify, if_neg h]
theorem frz_blk {w : World} {p : Addr} {k T : Nat} {cs : Array Value} (hb : Blk w k T cs) (h : p.block ≠ k) (n : Nat) : Blk (w.freeze p n) k T cs := (frz_other w h n).trans hb
theorem frz_at {w : World} {g T : Nat} {cs : Array Value} (hb : Blk w g T cs) (m : Nat) : (w.freeze ⟨g, m, none⟩ 1).heap[g]? = some (.cells cs T (m, m + 1)) := by
  unfold World.freeze
  rw [if_neg (by decide)]
  show (w.heap.modify g _)[g]? = _
  rw [Array.getElem?_modify, if_pos rfl, hb]
  rfl
theorem run_mark {P : Program} {w : World} {t e : TypeId} {cs : Array Value} {g : Nat} (n c : Nat) (hg : Blk w g e cs) (ht : P.underlying t = some (.slice e)) (he : P.underlying e = some (.int .u8)) :
    (convert t t (.slice (some ⟨g, 0, none⟩) n c)).run P w = .ok (.slice (some ⟨g, 0, none⟩) n c) (w.freeze ⟨g, cs.size, none⟩ 1) := by
  have hsh : w.shape? g = some (e, cs.size) := by
    unfold World.shape?
    rw [hg]
  simp [convert, run_underlying ht, run_underlying he, markStringish, hsh]
/-- Numbers in a block, read. -/
theorem nums_at (k : IntKind) {w : World} {g T : Nat} {xs : List Int} {C : Array Value} {fr : Nat × Nat} (hg : w.heap[g]? = some (.cells C T fr)) (hC : C = (nums k xs).toArray) (hm : xs.length ≤ 9223372036854775807) : Kd.C (Kd.int k) w (some ⟨g, 0, none⟩) xs.length xs := by
  subst hC
  refine Kd.C_of_reads (d := (0 : Int)) ⟨rfl, hm, fun _ => ⟨_, rfl, fun j hj => ?_⟩⟩
  have e : (⟨g, 0, none⟩ : Addr).add j = ⟨g, j, none⟩ := add_plain _ _
  rw [e]
  unfold World.cell?
  dsimp only
  rw [hg]
  simp [nums, List.getElem?_eq_getElem hj, List.getD_eq_getElem?_getD]
def cT (x : ST) (A2 : Option Addr) (c2 : Nat) (A3 : Option Addr) (c3 : Nat) : List Value := [.int .i64 x.f0, .int .u64 x.f1, .slice A2 x.f2.length c2, .slice A3 x.f3.length c3]
theorem tw_at {w : World} {g : Nat} {x y : ST} {A2 A3 B2 B3 : Option Addr} {c2 c3 d2 d3 : Nat} (hn : Blk w g 26 (cT x A2 c2 A3 c3 ++ cT y B2 d2 B3 d3).toArray) (hx : RowsT w x A2 c2 A3 c3) (hy : RowsT w y B2 d2 B3 d3) :
    Kd.C k26 w (some ⟨g, 0, none⟩) 2 [x, y] := by
  refine ⟨rfl, by decide, fun _ => ⟨_, rfl, fun j p hj => ?_⟩⟩
  rcases j with _ | _ | j
  · simp only [List.getElem?_cons_zero, Option.some.injEq] at hj
    subst hj
    refine ⟨cT x A2 c2 A3 c3, rfl, k26_mk _ x hx.1.1 hx.1.2 hx.2.1 hx.2.2, fun i u hu => ?_⟩
    rw [add_at, Nat.zero_add]
    show World.cell? _ ⟨_, 0 * 4 + i, none⟩ = _
    rw [hn.cell]
    rcases i with _ | _ | _ | _ | i <;> first | exact hu | (simp [cT] at hu)
  · simp only [List.getElem?_cons_succ, List.getElem?_cons_zero, Option.some.injEq] at hj
    subst hj
    refine ⟨cT y B2 d2 B3 d3, rfl, k26_mk _ y hy.1.1 hy.1.2 hy.2.1 hy.2.2, fun i u hu => ?_⟩
    rw [add_at, Nat.zero_add]
    show World.cell? _ ⟨_, 1 * 4 + i, none⟩ = _
    rw [hn.cell]
    rcases i with _ | _ | _ | _ | i <;> first | exact hu | (simp [cT] at hu)
  · simp at hj
theorem on_at {w : World} {g : Nat} {x : ST} {A2 A3 : Option Addr} {c2 c3 : Nat} (hn : Blk w g 26 (cT x A2 c2 A3 c3).toArray) (hx : RowsT w x A2 c2 A3 c3) : Kd.C k26 w (some ⟨g, 0, none⟩) 1 [x] := by
  refine ⟨rfl, by decide, fun _ => ⟨_, rfl, fun j p hj => ?_⟩⟩
  rcases j with _ | j
  · simp only [List.getElem?_cons_zero, Option.some.injEq] at hj
    subst hj
    refine ⟨cT x A2 c2 A3 c3, rfl, k26_mk _ x hx.1.1 hx.1.2 hx.2.1 hx.2.2, fun i u hu => ?_⟩
    rw [add_at, Nat.zero_add]
    show World.cell? _ ⟨_, 0 * 4 + i, none⟩ = _
    rw [hn.cell]
    rcases i with _ | _ | _ | _ | i <;> first | exact hu | (simp [cT] at hu)
  · simp at hj
theorem rows_none (w : World) (a n : Int) (A2 : Option Addr) (c2 : Nat) (A3 : Option Addr) (c3 : Nat) : RowsT w ⟨a, n, [], []⟩ A2 c2 A3 c3 := ⟨⟨Nat.zero_le _, ⟨rfl, Nat.zero_le _, fun h => absurd h (Nat.lt_irrefl 0)⟩⟩, Nat.zero_le _, ⟨rfl, Nat.zero_le _, fun h => absurd h (Nat.lt_irrefl 0)⟩⟩
theorem data1_c {w : World} {g : Nat} (h : Kd.C (Kd.int .u8) w (some ⟨g, 0, none⟩) 1 [97]) :
    Calls Try.prog 38 #[.slice (some ⟨g, 0, none⟩) 1 1] w fun e w' => ∃ v, e = .returned v ∧ TmV w' exA v ∧ Below w.heap.size w w' :=
  data_c (x := exA) (A2 := some ⟨g, 0, none⟩) (A3 := none) (c2 := 1) (c3 := 0) ⟨⟨Nat.le_refl _, h⟩, Nat.le_refl _, Kd.C_nil _ _⟩ (by intro x hx; simp [exA] at hx; omega) (lenT_flat 3 0 (by simp))
end Go.Proofs.Ytgohmganimamcaa.Term
/- derive, in plain: the closure holds its terms, is closed, and is the least such; what follows from more. -/
namespace Go.Proofs.Ytgohmganimamcaa.Term
set_option linter.unusedVariables false
set_option linter.unusedSimpArgs false
open Go.RowKit Go.Proofs.Ytgohmganimamcaa.Base Go.Proofs.Ytgohmganimamcaa.TlvPlain Go.Proofs.Ytgohmganimamcaa.Lo Go.Proofs.Ytgohmganimamcaa.RdPlain Go.Proofs.Ytgohmganimamcaa.Aid Go.Proofs.Ytgohmganimamcaa.PZ Go.Proofs.YtgohmganimamcaaW.PrintWords Go.Proofs.YtgohmganimamcaaW.PrintLast Go.Proofs.YtgohmganimamcaaW.PrintMore
end Go.Proofs.Ytgohmganimamcaa.Term
/- derive, in plain: what follows from terms that follow, follows. -/
namespace Go.Proofs.Ytgohmganimamcaa.Term
set_option linter.unusedVariables false
set_option linter.unusedSimpArgs false
open Go.RowKit Go.Proofs.Ytgohmganimamcaa.Base Go.Proofs.Ytgohmganimamcaa.TlvPlain Go.Proofs.Ytgohmganimamcaa.Lo Go.Proofs.Ytgohmganimamcaa.RdPlain Go.Proofs.Ytgohmganimamcaa.Aid Go.Proofs.Ytgohmganimamcaa.PZ Go.Proofs.YtgohmganimamcaaW.PrintWords Go.Proofs.YtgohmganimamcaaW.PrintLast Go.Proofs.YtgohmganimamcaaW.PrintMore
end Go.Proofs.Ytgohmganimamcaa.Term
/- derive, in plain: what is guarded does not follow. -/
namespace Go.Proofs.Ytgohmganimamcaa.Term
set_option linter.unusedVariables false
set_option linter.unusedSimpArgs false
open Go.RowKit Go.Proofs.Ytgohmganimamcaa.Base Go.Proofs.Ytgohmganimamcaa.TlvPlain Go.Proofs.Ytgohmganimamcaa.Lo Go.Proofs.Ytgohmganimamcaa.RdPlain Go.Proofs.Ytgohmganimamcaa.Aid Go.Proofs.Ytgohmganimamcaa.PZ Go.Proofs.YtgohmganimamcaaW.PrintWords Go.Proofs.YtgohmganimamcaaW.PrintLast Go.Proofs.YtgohmganimamcaaW.PrintMore
/-- Does a secret stand only where keys seal it? -/
inductive GuardD (sec : ST) (keys : List Int) : ST → Prop
  | mk {t : ST} (h1 : t ≠ sec) (h2 : t.f0 ≠ 6 → ∀ k ∈ (if t.f0 = 5 ∧ t.f3.length = 2 ∧ (t.f3.getD 1 z_T).f1 ∈ keys then t.f3.drop 1 else t.f3), GuardD sec keys k) : GuardD sec keys t
theorem GuardD.kids {sec : ST} {keys : List Int} {t : ST} (h : GuardD sec keys t) : t.f0 ≠ 6 → ∀ k ∈ (if t.f0 = 5 ∧ t.f3.length = 2 ∧ (t.f3.getD 1 z_T).f1 ∈ keys then t.f3.drop 1 else t.f3), GuardD sec keys k := by cases h; assumption
end Go.Proofs.Ytgohmganimamcaa.Term
-- printed for this claim by a program (pall.sh)
-- mended by fixpz.py
namespace Go.Proofs.Ytgohmganimamcaa.PZ
open Go.RowKit Go.Proofs.YtgohmganimamcaaW.PrintWords Go.Proofs.YtgohmganimamcaaW.PrintLast Go.Proofs.YtgohmganimamcaaW.PrintMore
attribute [local go_sem] max2_int min2_int max_two min_two max_three min_three max_four min_four   -- for this text's walks alone
set_option linter.unusedVariables false
set_option linter.unusedSimpArgs false

/-! ### slices_Index_uint64_uint64: function 79 -/
def slices_Index_uint64_uint64.l0 : Nat → List Int → Int → Int → Int → Option (Int)
 | 0, _, _, _, _ => none
 | k + 1, x0, x1, x7, x8 => if x8 < x7 then (if 0 ≤ x8 then (if x8 < (x0.length : Int) then (if x1 = (rd x0 x8) then (some x8) else (slices_Index_uint64_uint64.l0 k x0 x1 x7 (wrap64 (x8 + 1)))) else (none)) else (none)) else (some (-1))
def slices_Index_uint64_uint64.f (k : Nat) (l0 : List Int) (a1 : Int) : Option (Int) := slices_Index_uint64_uint64.l0 k l0 a1 (l0.length : Int) 0
set_option maxHeartbeats 8000000 in
set_option maxRecDepth 100000 in
theorem slices_Index_uint64_uint64.calls (k : Nat) (A0 : Option Addr) (c0 : Nat) (l0 : List Int) (a1 : Int) (r : Int) (w : World) (hr0 : Kd.C (Kd.int .u64) w A0 l0.length l0) (hc0 : l0.length ≤ c0) (h : slices_Index_uint64_uint64.f k l0 a1 = some r) :
  Calls Try.prog 79 #[.slice A0 l0.length c0, .int .u64 a1] w fun e w' => e = .returned (.int .i64 r) ∧ Drawn0 w w' := by
 have HR0 := Aside0.mk hr0
 have HC0 := Aside0.mk hc0
 clear hr0 hc0
 have H : (slices_Index_uint64_uint64.l0 k l0 a1 (l0.length : Int) 0) = some r := h
 clear h
 have H' := Aside0.mk H
 clear H
 go_enter Try.func79, Try.ntmps79
 go_wp2
 go_loopg [8] k (fun kq v8 w' => ∃ (x8_1 : Int), v8 = .int .i64 x8_1 ∧ Aside0 (slices_Index_uint64_uint64.l0 kq l0 a1 (l0.length : Int) x8_1 = some r) ∧ Aside0 (kq ≤ k) ∧ Drawn0 w w')
 case atStart => exact ⟨(0), (by first | rfl | (simp; done) | (simp [*]; done)), H', ⟨Nat.le_refl _⟩, by repeat (first | exact Drawn0.refl _ | apply Drawn0.step)⟩
 case round =>
  clear H'
  (try clear p2)
  obtain ⟨x8_1, rfl, HA, HK1, ⟨m1, rfl⟩⟩ := hrel
  cases gk with
  | zero => exact absurd HA.out (by simp [slices_Index_uint64_uint64.l0])
  | succ k1 =>
   have H := HA.out
   clear HA
   simp only [slices_Index_uint64_uint64.l0] at H
   by_cases c3 : x8_1 < (l0.length : Int)
   ·rw [if_pos c3] at H
    have c3b0 : decide (x8_1 < (l0.length : Int)) = true := decide_eq_true c3
    clear c3
    by_cases c4 : 0 ≤ x8_1
    ·rw [if_pos c4] at H
     have c4b0 : decide (0 ≤ x8_1) = true := decide_eq_true c4
     clear c4
     by_cases c5 : x8_1 < (l0.length : Int)
     ·rw [if_pos c5] at H
      have c5b0 : decide (x8_1 < (l0.length : Int)) = true := decide_eq_true c5
      clear c5
      by_cases c6 : a1 = (rd l0 x8_1)
      ·rw [if_pos c6] at H
       have c6b0 : (a1 == (rd l0 x8_1)) = true := beq_iff_eq.mpr c6
       have c6b1 : (a1 != (rd l0 x8_1)) = false := bne_eq_false_iff_eq.mpr c6
       clear c6
       obtain rfl := Option.some.inj H
       have p101 : 0 ≤ (x8_1 : Int) := of_decide_eq_true (by first | (with_reducible assumption) | assumption)
       have q101 : x8_1 < (l0.length : Int) := of_decide_eq_true (by first | (with_reducible assumption) | assumption)
       obtain ⟨ad101, e101, hx101_0⟩ := Kd.at_int HR0.out x8_1 p101 q101
       cases e101
       replace p101 := eq_true p101
       replace q101 := eq_true q101
       go_wp2
       go_ret
       exact ⟨by first | rfl | (simp; done) | (simp [*]; done), by repeat (first | exact Drawn0.refl _ | apply Drawn0.step)⟩
      ·rw [if_neg c6] at H
       have c6b0 : (a1 == (rd l0 x8_1)) = false := beq_eq_false_iff_ne.mpr c6
       have c6b1 : (a1 != (rd l0 x8_1)) = true := bne_iff_ne.mpr c6
       have H' := Aside0.mk H
       clear H
       have p101 : 0 ≤ (x8_1 : Int) := of_decide_eq_true (by first | (with_reducible assumption) | assumption)
       have q101 : x8_1 < (l0.length : Int) := of_decide_eq_true (by first | (with_reducible assumption) | assumption)
       obtain ⟨ad101, e101, hx101_0⟩ := Kd.at_int HR0.out x8_1 p101 q101
       cases e101
       replace p101 := eq_true p101
       replace q101 := eq_true q101
       go_wp2
       go_roundg k1
       case measure => have := HK1.out; omega
       case rel => exact ⟨(wrap64 (x8_1 + 1)), (by first | rfl | (simp; done) | (simp [*]; done)), H', ⟨by have := HK1.out; omega⟩, by repeat (first | exact Drawn0.refl _ | apply Drawn0.step)⟩
     ·rw [if_neg c5] at H
      exact absurd H (by simp)
    ·rw [if_neg c4] at H
     exact absurd H (by simp)
   ·rw [if_neg c3] at H
    have c3b0 : decide (x8_1 < (l0.length : Int)) = false := decide_eq_false c3
    clear c3
    obtain rfl := Option.some.inj H
    go_wp2
    go_ret
    exact ⟨by first | rfl | (simp; done) | (simp [*]; done), by repeat (first | exact Drawn0.refl _ | apply Drawn0.step)⟩

end Go.Proofs.Ytgohmganimamcaa.PZ
-- printed for this claim by a program (pall.sh)
-- mended by fixpz.py
namespace Go.Proofs.Ytgohmganimamcaa.PZ
open Go.RowKit Go.Proofs.YtgohmganimamcaaW.PrintWords Go.Proofs.YtgohmganimamcaaW.PrintLast Go.Proofs.YtgohmganimamcaaW.PrintMore
attribute [local go_sem] max2_int min2_int max_two min_two max_three min_three max_four min_four   -- for this text's walks alone
set_option linter.unusedVariables false
set_option linter.unusedSimpArgs false

/-! ### slices_Contains_uint64_uint64: function 62 -/
def slices_Contains_uint64_uint64.f (k : Nat) (l0 : List Int) (a1 : Int) : Option (Bool) := (slices_Index_uint64_uint64.f k l0 a1).bind fun t101 => (some (decide (t101 ≥ 0)))
set_option maxHeartbeats 8000000 in
set_option maxRecDepth 100000 in
theorem slices_Contains_uint64_uint64.calls (k : Nat) (A0 : Option Addr) (c0 : Nat) (l0 : List Int) (a1 : Int) (r : Bool) (w : World) (hr0 : Kd.C (Kd.int .u64) w A0 l0.length l0) (hc0 : l0.length ≤ c0) (h : slices_Contains_uint64_uint64.f k l0 a1 = some r) :
  Calls Try.prog 62 #[.slice A0 l0.length c0, .int .u64 a1] w fun e w' => e = .returned (.bool r) ∧ Drawn0 w w' := by
 have HR0 := Aside0.mk hr0
 have HC0 := Aside0.mk hc0
 clear hr0 hc0
 have H : ((slices_Index_uint64_uint64.f k l0 a1).bind fun t101 => (some (decide (t101 ≥ 0)))) = some r := h
 clear h
 replace H := Option.bind_eq_some_iff.mp H
 obtain ⟨t101, A30, H⟩ := H
 replace H : (some (decide (t101 ≥ 0))) = some r := H
 have A3 := Aside0.mk A30
 clear A30
 obtain rfl := Option.some.inj H
 go_enter Try.func62, Try.ntmps62
 go_wp2_with (first | ((with_reducible refine gate_callee (f := 79) rfl ?_); refine goesL_ (some 7) rfl rfl Try.func79 (by kernel_rfl) rfl #[.slice A0 l0.length c0, .int .u64 a1] rfl (by (try simp only [List.map_toArray, List.map_cons, List.map_nil]); first | done | rfl | (simp only [List.length_drop, List.length_take]; rfl)) ?_; (with_reducible refine (slices_Index_uint64_uint64.calls k _ _ l0 a1 t101 _ ?side1 ?side2 A3.out).mono ?_); (case side1 => repeat (first | exact HR0.out | (with_reducible refine Kd.C_alloc ?_ _) | (with_reducible refine Kd.C_drewN ?_ _) | (with_reducible refine Kd.C_drew ?_))); (case side2 => exact HC0.out); rintro e w' ⟨rfl, ⟨nd, rfl⟩⟩; refine ⟨_, rfl, ?_⟩))
 go_ret
 exact ⟨by first | rfl | (simp; done) | (simp [*]; done), by repeat (first | exact Drawn0.refl _ | apply Drawn0.step)⟩

end Go.Proofs.Ytgohmganimamcaa.PZ
/- derive.Guarded, in plain: does a secret stand only where keys seal it? -/
namespace Go.Proofs.Ytgohmganimamcaa.Term
set_option linter.unusedVariables false
set_option linter.unusedSimpArgs false
open Go.RowKit Go.Proofs.Ytgohmganimamcaa.Base Go.Proofs.Ytgohmganimamcaa.TlvPlain Go.Proofs.Ytgohmganimamcaa.Lo Go.Proofs.Ytgohmganimamcaa.RdPlain Go.Proofs.Ytgohmganimamcaa.Aid Go.Proofs.Ytgohmganimamcaa.PZ Go.Proofs.YtgohmganimamcaaW.PrintWords Go.Proofs.YtgohmganimamcaaW.PrintLast Go.Proofs.YtgohmganimamcaaW.PrintMore
theorem index_ev (l : List Int) (a : Int) (hl : l.length ≤ 4611686018427387904) : ∃ r : Int, decide (r ≥ 0) = l.contains a ∧ Ev (fun k => slices_Index_uint64_uint64.f k l a) r := by
  have loop : ∀ (m i : Nat), i + m = l.length → ∃ r : Int, decide (r ≥ 0) = (l.drop i).contains a ∧ Ev (fun k => slices_Index_uint64_uint64.l0 k l a (l.length : Int) (i : Int)) r := by
    intro m
    induction m with
    | zero =>
      intro i hi
      refine ⟨-1, ?_, Ev.step (fun k => by simp only [slices_Index_uint64_uint64.l0]; rfl) (neg (by omega) (now rfl))⟩
      rw [List.drop_eq_nil_of_le (by omega)]
      rfl
    | succ m ih =>
      intro i hi
      have hlt : i < l.length := by omega
      by_cases he : a = l[i]
      · refine ⟨(i : Int), ?_, Ev.step (fun k => by simp only [slices_Index_uint64_uint64.l0]; rfl) (pos (by omega) (pos (by omega) (pos (by omega) (pos (by rw [rd_nat l i hlt]; exact he) (now rfl)))))⟩
        rw [drop_cons _ _ hlt, List.contains_cons, decide_eq_true (by omega), he]
        simp
      · obtain ⟨r, hr, hev⟩ := ih (i + 1) (by omega)
        refine ⟨r, ?_, Ev.step (fun k => by simp only [slices_Index_uint64_uint64.l0]; rfl) (pos (by omega) (pos (by omega) (pos (by omega) (neg (by rw [rd_nat l i hlt]; exact he) (by rw [inc hlt hl]; exact hev)))))⟩
        rw [hr, drop_cons _ _ hlt, List.contains_cons]
        have : (a == l[i]) = false := by simp [he]
        rw [this, Bool.false_or]
  exact loop l.length 0 (by omega)
theorem contains_c (l : List Int) (a : Int) (hl : l.length ≤ 4611686018427387904) (A : Option Addr) (c : Nat) (w : World) (hr : Kd.C (Kd.int .u64) w A l.length l) (hc : l.length ≤ c) :
    Calls Try.prog 62 #[.slice A l.length c, .int .u64 a] w fun e w' => e = .returned (.bool (l.contains a)) ∧ Drawn0 w w' := by
  obtain ⟨r, hr1, hev⟩ := index_ev l a hl
  have h : Ev (fun k => slices_Contains_uint64_uint64.f k l a) (l.contains a) := by
    rw [← hr1]
    unfold slices_Contains_uint64_uint64.f
    exact evBind hev (now rfl)
  obtain ⟨k, hk⟩ := h.rounds
  exact slices_Contains_uint64_uint64.calls k A c l a _ w hr hc hk
mutual
def grdT (keys : List Int) (sec : ST) : ST → Bool
  | ⟨a, n, d, ks⟩ => !(eqT ⟨a, n, d, ks⟩ sec) && (a == 6 || grdTs keys sec (a == 5 && (ks.length == 2 && keys.contains (ks.getD 1 z_T).f1)) ks)
def grdTs (keys : List Int) (sec : ST) : Bool → List ST → Bool
  | _, [] => true
  | b, k :: ks => (b || grdT keys sec k) && grdTs keys sec false ks
end
theorem grdTs_all (keys : List Int) (sec : ST) : ∀ ks : List ST, grdTs keys sec false ks = ks.all (fun k => grdT keys sec k)
  | [] => by rw [grdTs]; rfl
  | k :: ks => by rw [grdTs, grdTs_all keys sec ks, List.all_cons, Bool.false_or]
theorem grdTs_skip (keys : List Int) (sec : ST) : ∀ ks : List ST, grdTs keys sec true ks = (ks.drop 1).all (fun k => grdT keys sec k)
  | [] => by rw [grdTs]; rfl
  | k :: ks => by rw [grdTs, grdTs_all keys sec ks, Bool.true_or, Bool.true_and]; rfl
/-- The kids that are looked at. -/
def grdK (keys : List Int) (t : ST) : List ST := if (t.f0 == 5 && (t.f3.length == 2 && keys.contains (t.f3.getD 1 z_T).f1)) = true then t.f3.drop 1 else t.f3
theorem grdT_eq (keys : List Int) (sec t : ST) : grdT keys sec t = (!(eqT t sec) && (t.f0 == 6 || (grdK keys t).all (fun k => grdT keys sec k))) := by
  obtain ⟨a, n, d, ks⟩ := t
  rw [grdT]
  unfold grdK
  dsimp only
  cases (a == 5 && (ks.length == 2 && keys.contains (ks.getD 1 z_T).f1)) with
  | true => rw [grdTs_skip, if_pos rfl]
  | false => rw [grdTs_all, if_neg (by decide)]
end Go.Proofs.Ytgohmganimamcaa.Term
/- derive.Guarded walked: does a secret stand only where keys seal it? -/
namespace Go.Proofs.Ytgohmganimamcaa.Term
set_option linter.unusedVariables false
set_option linter.unusedSimpArgs false
open Go.RowKit Go.Proofs.Ytgohmganimamcaa.Base Go.Proofs.Ytgohmganimamcaa.TlvPlain Go.Proofs.Ytgohmganimamcaa.Lo Go.Proofs.Ytgohmganimamcaa.RdPlain Go.Proofs.Ytgohmganimamcaa.Aid Go.Proofs.Ytgohmganimamcaa.PZ Go.Proofs.YtgohmganimamcaaW.PrintWords Go.Proofs.YtgohmganimamcaaW.PrintLast Go.Proofs.YtgohmganimamcaaW.PrintMore
def GrdC (keys : List Int) (sec t : ST) : Prop := ∀ T2 k2 T3 k3 S2 j2 S3 j3 K ck (W : World), RowsT W t T2 k2 T3 k3 → RowsT W sec S2 j2 S3 j3 → Kd.C (Kd.int .u64) W K keys.length keys → keys.length ≤ ck →
  Calls Try.prog 30 #[.agg #[.int .i64 t.f0, .int .u64 t.f1, .slice T2 t.f2.length k2, .slice T3 t.f3.length k3], .agg #[.int .i64 sec.f0, .int .u64 sec.f1, .slice S2 sec.f2.length j2, .slice S3 sec.f3.length j3], .slice K keys.length ck] W fun e w' => e = .returned (.bool (grdT keys sec t)) ∧ Below W.heap.size W w'
theorem take_all {f : ST → Bool} (l : List ST) (i : Nat) (h : i < l.length) : (l.take (i + 1)).all f = ((l.take i).all f && f l[i]) := by
  rw [take_snoc l i h, List.all_append]
  simp
theorem snd_obj (w : World) (a b : Obj) : ((w.alloc a).alloc b).heap[w.heap.size + 1]? = some b := by
  have h := blk_new (w.alloc a) b
  simpa using h
set_option maxHeartbeats 8000000 in
set_option maxRecDepth 100000 in
theorem grd_c {keys : List Int} {sec : ST} (hkl : keys.length ≤ 4611686018427387904) (hs : wfT sec) : ∀ (n : Nat) (t : ST), SizeOf.sizeOf t < n → wfT t → GrdC keys sec t := by
  intro n
  induction n with
  | zero => intro t h; exact absurd h (by omega)
  | succ n ih =>
    intro t hn ht T2 k2 T3 k3 S2 j2 S3 j3 K ck W htr hsr hkr hck
    have hk : ∀ k ∈ t.f3, GrdC keys sec k := fun k hk => ih k (by
      have h1 := List.sizeOf_lt_of_mem hk
      have h2 : SizeOf.sizeOf t.f3 < SizeOf.sizeOf t := by cases t; simp; omega
      omega) (((wfT_eq t).1 ht).2.2 k hk)
    have hb0 : Below W.heap.size W ((W.alloc (.cells #[.int .i64 t.f0, .int .u64 t.f1, .slice T2 t.f2.length k2, .slice T3 t.f3.length k3] 26)).alloc (.cells #[.int .i64 sec.f0, .int .u64 sec.f1, .slice S2 sec.f2.length j2, .slice S3 sec.f3.length j3] 26)) := below_alloc (below_alloc (Below.refl _ _) _) _
    have HK := Aside0.mk hk
    have HCK := Aside0.mk hck
    have HKL := Aside0.mk hkl
    have HB := Aside0.mk hb0
    have HT := Aside0.mk (show Blk ((W.alloc (.cells #[.int .i64 t.f0, .int .u64 t.f1, .slice T2 t.f2.length k2, .slice T3 t.f3.length k3] 26)).alloc (.cells #[.int .i64 sec.f0, .int .u64 sec.f1, .slice S2 sec.f2.length j2, .slice S3 sec.f3.length j3] 26)) W.heap.size 26 #[.int .i64 t.f0, .int .u64 t.f1, .slice T2 t.f2.length k2, .slice T3 t.f3.length k3] from Blk.alloc (show Blk (W.alloc (.cells #[.int .i64 t.f0, .int .u64 t.f1, .slice T2 t.f2.length k2, .slice T3 t.f3.length k3] 26)) W.heap.size 26 #[.int .i64 t.f0, .int .u64 t.f1, .slice T2 t.f2.length k2, .slice T3 t.f3.length k3] from blk_new _ _) _)
    have HS := Aside0.mk (show Blk ((W.alloc (.cells #[.int .i64 t.f0, .int .u64 t.f1, .slice T2 t.f2.length k2, .slice T3 t.f3.length k3] 26)).alloc (.cells #[.int .i64 sec.f0, .int .u64 sec.f1, .slice S2 sec.f2.length j2, .slice S3 sec.f3.length j3] 26)) (W.heap.size + 1) 26 #[.int .i64 sec.f0, .int .u64 sec.f1, .slice S2 sec.f2.length j2, .slice S3 sec.f3.length j3] from snd_obj _ _ _)
    have HKR := Aside0.mk hkr
    have HTR := Aside0.mk htr
    have HSR := Aside0.mk hsr
    have HH := Aside0.mk (same2_c ht hs (htr.below hb0) (hsr.below hb0))
    have HE := Aside0.mk (grdT_eq keys sec t)
    have hu26 := Try.underlying26
    have hu24 := Try.underlying24
    obtain ⟨t0, t1, t2, t3⟩ := four_cells HT.out
    obtain ⟨s0, s1, s2, s3⟩ := four_cells HS.out
    obtain ⟨mb, hmb⟩ : ∃ b, grdT keys sec t = b := ⟨_, rfl⟩
    rw [hmb] at HE ⊢
    clear htr hb0 ih hn ht hk hmb hsr hkr hck hs hkl
    cases hq : eqT t sec with
    | true =>
      have HE2 := HE.out
      rw [hq] at HE2 HH
      rw [Bool.not_true, Bool.false_and] at HE2
      subst HE2
      go_enter Try.func30, Try.ntmps30
      go_wp2_with (go_at_call 22; refine HH.out.mono ?_; rintro e w1 ⟨rfl, hb⟩; have HB1 := Aside0.mk (below_step HB.out hb); have HT1 := Aside0.mk (HT.out.below hb); have HS1 := Aside0.mk (HS.out.below hb); obtain ⟨x0, x1, x2, x3⟩ := four_cells HT1.out; clear hb)
      go_ret
      exact ⟨rfl, HB1.out⟩
    | false =>
      have HE2 := HE.out
      rw [hq] at HE2 HH
      rw [Bool.not_false, Bool.true_and] at HE2
      clear hq HE
      by_cases c6 : t.f0 = 6
      · have z6 : (t.f0 == 6) = true := by simp [c6]
        rw [z6, Bool.true_or] at HE2
        subst HE2
        clear c6
        go_enter Try.func30, Try.ntmps30
        go_wp2_with (go_at_call 22; refine HH.out.mono ?_; rintro e w1 ⟨rfl, hb⟩; have HB1 := Aside0.mk (below_step HB.out hb); have HT1 := Aside0.mk (HT.out.below hb); have HS1 := Aside0.mk (HS.out.below hb); obtain ⟨x0, x1, x2, x3⟩ := four_cells HT1.out; clear hb)
        go_ret
        exact ⟨rfl, HB1.out⟩
      · have z6 : (t.f0 == 6) = false := by simp [c6]
        rw [z6, Bool.false_or] at HE2
        clear c6
        by_cases c5 : t.f0 = 5
        · have z5 : (t.f0 == 5) = true := by simp [c5]
          clear c5
          by_cases cl : t.f3.length = 2
          · have zl : ((t.f3.length : Int) == 2) = true := by simp [cl]
            unfold grdK at HE2
            obtain ⟨ad, B2, d2, B3, d3, rfl, hx0, hx1, hx2, hx3, hl2, hr2, hl3, hr3⟩ := at_T26 HTR.out.2.2 (1 : Int) (by omega) (by omega)
            rw [show (1 : Int) = ((1 : Nat) : Int) from rfl, rd_at t.f3 1 (by omega)] at hx0 hx1 hx2 hx3 hl2 hr2 hl3 hr3
            have hgd : t.f3.getD 1 z_T = t.f3[1] := by simp [List.getD_eq_getElem?_getD, List.getElem?_eq_getElem (show 1 < t.f3.length by omega)]
            have hdr : t.f3.drop 1 = [t.f3[1]] := by rw [drop_cons _ _ (show 1 < t.f3.length by omega), List.drop_eq_nil_of_le (by omega)]
            simp only [Int.toNat_natCast, Nat.one_mul] at hx1
            rw [hgd] at HE2
            have HKY := Aside0.mk (HK.out t.f3[1] (List.getElem_mem (by omega)))
            have HRD := Aside0.mk (Kd.C_drop (m := 1) HTR.out.2.2 (by omega) HTR.out.2.1)
            obtain ⟨y, hy⟩ : ∃ y, t.f3[1] = y := ⟨_, rfl⟩
            rw [hy] at HE2 hx1 HKY
            have HXW := Aside0.mk hx1
            have p1a : (1 : Int) < (t.f3.length : Int) := by omega
            have p1b : 1 < t.f3.length := by omega
            have p1c : (1 : Int) ≤ (t.f3.length : Int) := by omega
            have p1d : 1 ≤ t.f3.length := by omega
            have p1e : 1 ≤ k3 := by have := HTR.out.2.1; omega
            have p1f : (1 : Int) ≤ (k3 : Int) := by omega
            have p1g : ¬ (k3 = 1) := by have := HTR.out.2.1; omega
            have p1h : ¬ (k3 - 1 = 0) := by omega
            have p1i : 0 < k3 - 1 := by omega
            clear hx0 hx1 hx2 hx3 hl2 hr2 hl3 hr3 hy hgd
            cases hcn : keys.contains y.f1 with
            | true =>
              rw [if_pos (by rw [z5, hcn, cl]; rfl)] at HE2
              have HCN := Aside0.mk hcn
              have HCL := Aside0.mk cl
              clear hcn hdr cl
              have HAL := Aside0.mk HE2
              clear HE2
              have HMA := Aside0.mk HTR.out.2.2.2.1
              go_enter Try.func30, Try.ntmps30
              go_wp2_with (fail)
              refine HH.out.mono ?_
              rintro e w1 ⟨rfl, hb⟩
              have HB1 := Aside0.mk (below_step HB.out hb)
              have HT1 := Aside0.mk (HT.out.below hb)
              have HS1 := Aside0.mk (HS.out.below hb)
              obtain ⟨x0, x1, x2, x3⟩ := four_cells HT1.out
              have k1 : w1.cell? ⟨ad.block, ad.off + 4 + 1, none⟩ = some (.int .u64 y.f1) := (HB1.out.cell (World.block_lt_of_cell? _ _ HXW.out)).trans HXW.out
              clear hb
              go_wp2_with (fail)
              refine (contains_c keys y.f1 HKL.out K ck _ (Kd.C_below HKR.out HB1.out) HCK.out).mono ?_
              rintro e w2 ⟨rfl, hd⟩
              rw [HCN.out]
              have HB2 := Aside0.mk (below_step HB1.out (Drawn0.below hd))
              have HS2 := Aside0.mk (HS1.out.below (Drawn0.below hd))
              have HT2 := Aside0.mk (HT1.out.below (Drawn0.below hd))
              clear x0 x1 x2 x3 k1
              obtain ⟨x0, x1, x2, x3⟩ := four_cells HT2.out
              clear hd
              go_wp2_with (fail)
              have hl : t.f3.length - 1 = (t.f3.drop 1).length := by rw [List.length_drop]
              have HRK := Aside0.mk (show Kd.C k26 W (some ⟨ad.block, ad.off + 4, none⟩) (t.f3.drop 1).length (t.f3.drop 1) from by
                have h := HRD.out
                rw [if_neg p1g] at h
                exact h)
              have HKM := Aside0.mk (fun k (hk : k ∈ t.f3.drop 1) => HK.out k (List.mem_of_mem_drop hk))
              have HM := Aside0.mk (show (t.f3.drop 1).length ≤ 9223372036854775807 by rw [List.length_drop]; have := HMA.out; omega)
              rw [hl]
              clear hl p1a p1b p1c p1d p1e p1f p1g p1h p1i HRD
              obtain ⟨ks, hks⟩ : ∃ ks, t.f3.drop 1 = ks := ⟨_, rfl⟩
              rw [hks] at HRK HKM HM HAL ⊢
              clear hks
              obtain ⟨ae, hae⟩ : ∃ ae, (⟨ad.block, ad.off + 4, none⟩ : Addr) = ae := ⟨_, rfl⟩
              rw [hae] at HRK ⊢
              clear hae
              go_loopg [40] ks.length (fun gf s40 wx => ∃ (i : Nat), s40 = .int .i64 (i : Int) ∧ i + gf = ks.length ∧ (ks.take i).all (fun k => grdT keys sec k) = true ∧ Below W.heap.size W wx ∧ Blk wx (W.heap.size + 1) 26 #[.int .i64 sec.f0, .int .u64 sec.f1, .slice S2 sec.f2.length j2, .slice S3 sec.f3.length j3])
              case atStart => exact ⟨0, rfl, by omega, rfl, HB2.out, HS2.out⟩
              case round =>
                obtain ⟨i, rfl, hi, hf, hbl, hsb⟩ := hrel
                have HQ := Aside0.mk hi
                have HF := Aside0.mk hf
                have HBx := Aside0.mk hbl
                have HSx := Aside0.mk hsb
                clear hi hf hbl hsb
                by_cases hlt : i < ks.length
                · have hl1 : decide ((i : Int) < (ks.length : Int)) = true := decide_eq_true (by omega)
                  have hw1 : wrap64 ((i : Int) + 1) = ((i + 1 : Nat) : Int) := by rw [Aid.w64 (by omega) (by have := HM.out; omega)]; omega
                  obtain ⟨ad, B2, d2, B3, d3, had, hx0, hx1, hx2, hx3, hl2, hr2, hl3, hr3⟩ := at_T26 HRK.out (i : Int) (by omega) (by omega)
                  cases had
                  rw [rd_at ks i hlt] at hx0 hx1 hx2 hx3 hl2 hr2 hl3 hr3
                  have hbm := HBx.out
                  replace hx0 := (hbm.cell (World.block_lt_of_cell? _ _ hx0)).trans hx0
                  replace hx1 := (hbm.cell (World.block_lt_of_cell? _ _ hx1)).trans hx1
                  replace hx2 := (hbm.cell (World.block_lt_of_cell? _ _ hx2)).trans hx2
                  replace hx3 := (hbm.cell (World.block_lt_of_cell? _ _ hx3)).trans hx3
                  have HC := Aside0.mk (HKM.out ks[i] (List.getElem_mem hlt))
                  have HR := Aside0.mk (⟨⟨hl2, hr2⟩, hl3, hr3⟩ : RowsT W ks[i] B2 d2 B3 d3)
                  have HTA := Aside0.mk (take_all (f := fun k => grdT keys sec k) ks i hlt)
                  have HAX := Aside0.mk (show ks.all (fun k => grdT keys sec k) = ((ks.take (i + 1)).all (fun k => grdT keys sec k) && (ks.drop (i + 1)).all (fun k => grdT keys sec k)) by rw [← List.all_append, List.take_append_drop])
                  simp only [Int.toNat_natCast] at hx0 hx1 hx2 hx3
                  obtain ⟨y, hy⟩ : ∃ y, ks[i] = y := ⟨_, rfl⟩
                  rw [hy] at hx0 hx1 hx2 hx3 HC HTA HR
                  clear hbm hl2 hr2 hl3 hr3 hy
                  have p1 : (0 : Int) ≤ (i : Int) := by omega
                  have p2 : (i : Int) < (ks.length : Int) := by omega
                  obtain ⟨z0, z1, z2, z3⟩ := four_cells (HSx.out.alloc (.cells #[.int .i64 y.f0, .int .u64 y.f1, .slice B2 y.f2.length d2, .slice B3 y.f3.length d3] 26))
                  clear hlt
                  cases he : grdT keys sec y with
                  | false =>
                    unfold GrdC at HC
                    rw [he] at HC HTA
                    clear he
                    go_wp2_with (fail)
                    refine (HC.out B2 d2 B3 d3 S2 j2 S3 j3 K ck _ (RowsT.below HR.out (below_alloc HBx.out _)) (RowsT.below HSR.out (below_alloc HBx.out _)) (Kd.C_below HKR.out (below_alloc HBx.out _)) HCK.out).mono ?_
                    rintro e w4 ⟨rfl, hb⟩
                    have HB4 := Aside0.mk (below_step (below_alloc HBx.out _) hb)
                    clear hb
                    go_wp2_with (fail)
                    go_ret
                    refine ⟨?_, HB4.out⟩
                    rw [HAL.out, HAX.out, HTA.out]
                    simp
                  | true =>
                    unfold GrdC at HC
                    rw [he] at HC HTA
                    clear he
                    go_wp2_with (fail)
                    refine (HC.out B2 d2 B3 d3 S2 j2 S3 j3 K ck _ (RowsT.below HR.out (below_alloc HBx.out _)) (RowsT.below HSR.out (below_alloc HBx.out _)) (Kd.C_below HKR.out (below_alloc HBx.out _)) HCK.out).mono ?_
                    rintro e w4 ⟨rfl, hb⟩
                    have HB4 := Aside0.mk (below_step (below_alloc HBx.out _) hb)
                    have HS4 := Aside0.mk ((HSx.out.alloc _).below hb)
                    clear hb
                    go_wp2_with (fail)
                    go_roundg (ks.length - (i + 1))
                    case measure => have := HQ.out; omega
                    case rel => exact ⟨i + 1, by first | rfl | rw [hw1], by omega, by rw [HTA.out, HF.out]; rfl, HB4.out, HS4.out⟩
                · have hl1 : decide ((i : Int) < (ks.length : Int)) = false := decide_eq_false (by omega)
                  have HE := Aside0.mk (show ks.all (fun k => grdT keys sec k) = true by have h := HF.out; rw [List.take_of_length_le (by omega)] at h; exact h)
                  go_wp2
                  go_ret
                  exact ⟨by rw [HAL.out, HE.out]; rfl, HBx.out⟩
            | false =>
              rw [if_neg (by rw [z5, hcn]; simp)] at HE2
              have HCN := Aside0.mk hcn
              clear hdr cl hcn
              have HAL := Aside0.mk HE2
              clear HE2
              have HKM := HK
              have HM := Aside0.mk HTR.out.2.2.2.1
              have HRK := Aside0.mk HTR.out.2.2
              go_enter Try.func30, Try.ntmps30
              go_wp2_with (fail)
              refine HH.out.mono ?_
              rintro e w1 ⟨rfl, hb⟩
              have HB1 := Aside0.mk (below_step HB.out hb)
              have HT1 := Aside0.mk (HT.out.below hb)
              have HS1 := Aside0.mk (HS.out.below hb)
              obtain ⟨x0, x1, x2, x3⟩ := four_cells HT1.out
              have k1 : w1.cell? ⟨ad.block, ad.off + 4 + 1, none⟩ = some (.int .u64 y.f1) := (HB1.out.cell (World.block_lt_of_cell? _ _ HXW.out)).trans HXW.out
              clear hb
              go_wp2_with (fail)
              refine (contains_c keys y.f1 HKL.out K ck _ (Kd.C_below HKR.out HB1.out) HCK.out).mono ?_
              rintro e w2 ⟨rfl, hd⟩
              rw [HCN.out]
              have HB2 := Aside0.mk (below_step HB1.out (Drawn0.below hd))
              have HS2 := Aside0.mk (HS1.out.below (Drawn0.below hd))
              have HT2 := Aside0.mk (HT1.out.below (Drawn0.below hd))
              clear x0 x1 x2 x3 k1
              obtain ⟨x0, x1, x2, x3⟩ := four_cells HT2.out
              clear hd
              go_wp2_with (fail)
              go_loopg [40] t.f3.length (fun gf s40 wx => ∃ (i : Nat), s40 = .int .i64 (i : Int) ∧ i + gf = t.f3.length ∧ (t.f3.take i).all (fun k => grdT keys sec k) = true ∧ Below W.heap.size W wx ∧ Blk wx (W.heap.size + 1) 26 #[.int .i64 sec.f0, .int .u64 sec.f1, .slice S2 sec.f2.length j2, .slice S3 sec.f3.length j3])
              case atStart => exact ⟨0, rfl, by omega, rfl, HB2.out, HS2.out⟩
              case round =>
                obtain ⟨i, rfl, hi, hf, hbl, hsb⟩ := hrel
                have HQ := Aside0.mk hi
                have HF := Aside0.mk hf
                have HBx := Aside0.mk hbl
                have HSx := Aside0.mk hsb
                clear hi hf hbl hsb
                by_cases hlt : i < t.f3.length
                · have hl1 : decide ((i : Int) < (t.f3.length : Int)) = true := decide_eq_true (by omega)
                  have hw1 : wrap64 ((i : Int) + 1) = ((i + 1 : Nat) : Int) := by rw [Aid.w64 (by omega) (by have := HM.out; omega)]; omega
                  obtain ⟨ad, B2, d2, B3, d3, had, hx0, hx1, hx2, hx3, hl2, hr2, hl3, hr3⟩ := at_T26 HRK.out (i : Int) (by omega) (by omega)
                  cases had
                  rw [rd_at t.f3 i hlt] at hx0 hx1 hx2 hx3 hl2 hr2 hl3 hr3
                  have hbm := HBx.out
                  replace hx0 := (hbm.cell (World.block_lt_of_cell? _ _ hx0)).trans hx0
                  replace hx1 := (hbm.cell (World.block_lt_of_cell? _ _ hx1)).trans hx1
                  replace hx2 := (hbm.cell (World.block_lt_of_cell? _ _ hx2)).trans hx2
                  replace hx3 := (hbm.cell (World.block_lt_of_cell? _ _ hx3)).trans hx3
                  have HC := Aside0.mk (HKM.out t.f3[i] (List.getElem_mem hlt))
                  have HR := Aside0.mk (⟨⟨hl2, hr2⟩, hl3, hr3⟩ : RowsT W t.f3[i] B2 d2 B3 d3)
                  have HTA := Aside0.mk (take_all (f := fun k => grdT keys sec k) t.f3 i hlt)
                  have HAX := Aside0.mk (show t.f3.all (fun k => grdT keys sec k) = ((t.f3.take (i + 1)).all (fun k => grdT keys sec k) && (t.f3.drop (i + 1)).all (fun k => grdT keys sec k)) by rw [← List.all_append, List.take_append_drop])
                  simp only [Int.toNat_natCast] at hx0 hx1 hx2 hx3
                  obtain ⟨y, hy⟩ : ∃ y, t.f3[i] = y := ⟨_, rfl⟩
                  rw [hy] at hx0 hx1 hx2 hx3 HC HTA HR
                  clear hbm hl2 hr2 hl3 hr3 hy
                  have p1 : (0 : Int) ≤ (i : Int) := by omega
                  have p2 : (i : Int) < (t.f3.length : Int) := by omega
                  obtain ⟨z0, z1, z2, z3⟩ := four_cells (HSx.out.alloc (.cells #[.int .i64 y.f0, .int .u64 y.f1, .slice B2 y.f2.length d2, .slice B3 y.f3.length d3] 26))
                  clear hlt
                  cases he : grdT keys sec y with
                  | false =>
                    unfold GrdC at HC
                    rw [he] at HC HTA
                    clear he
                    go_wp2_with (fail)
                    refine (HC.out B2 d2 B3 d3 S2 j2 S3 j3 K ck _ (RowsT.below HR.out (below_alloc HBx.out _)) (RowsT.below HSR.out (below_alloc HBx.out _)) (Kd.C_below HKR.out (below_alloc HBx.out _)) HCK.out).mono ?_
                    rintro e w4 ⟨rfl, hb⟩
                    have HB4 := Aside0.mk (below_step (below_alloc HBx.out _) hb)
                    clear hb
                    go_wp2_with (fail)
                    go_ret
                    refine ⟨?_, HB4.out⟩
                    rw [HAL.out, HAX.out, HTA.out]
                    simp
                  | true =>
                    unfold GrdC at HC
                    rw [he] at HC HTA
                    clear he
                    go_wp2_with (fail)
                    refine (HC.out B2 d2 B3 d3 S2 j2 S3 j3 K ck _ (RowsT.below HR.out (below_alloc HBx.out _)) (RowsT.below HSR.out (below_alloc HBx.out _)) (Kd.C_below HKR.out (below_alloc HBx.out _)) HCK.out).mono ?_
                    rintro e w4 ⟨rfl, hb⟩
                    have HB4 := Aside0.mk (below_step (below_alloc HBx.out _) hb)
                    have HS4 := Aside0.mk ((HSx.out.alloc _).below hb)
                    clear hb
                    go_wp2_with (fail)
                    go_roundg (t.f3.length - (i + 1))
                    case measure => have := HQ.out; omega
                    case rel => exact ⟨i + 1, by first | rfl | rw [hw1], by omega, by rw [HTA.out, HF.out]; rfl, HB4.out, HS4.out⟩
                · have hl1 : decide ((i : Int) < (t.f3.length : Int)) = false := decide_eq_false (by omega)
                  have HE := Aside0.mk (show t.f3.all (fun k => grdT keys sec k) = true by have h := HF.out; rw [List.take_of_length_le (by omega)] at h; exact h)
                  go_wp2
                  go_ret
                  exact ⟨by rw [HAL.out, HE.out]; rfl, HBx.out⟩
          · have zl : ((t.f3.length : Int) == 2) = false := by rw [beq_eq_false_iff_ne]; omega
            unfold grdK at HE2
            rw [if_neg (by simp [cl])] at HE2
            clear cl
            have HAL := Aside0.mk HE2
            clear HE2
            have HKM := HK
            have HM := Aside0.mk HTR.out.2.2.2.1
            have HRK := Aside0.mk HTR.out.2.2
            go_enter Try.func30, Try.ntmps30
            go_wp2_with (first | (go_at_call 22; refine HH.out.mono ?_; rintro e w1 ⟨rfl, hb⟩; have HB1 := Aside0.mk (below_step HB.out hb); have HT1 := Aside0.mk (HT.out.below hb); have HS1 := Aside0.mk (HS.out.below hb); obtain ⟨x0, x1, x2, x3⟩ := four_cells HT1.out; clear hb))
            go_loopg [40] t.f3.length (fun gf s40 wx => ∃ (i : Nat), s40 = .int .i64 (i : Int) ∧ i + gf = t.f3.length ∧ (t.f3.take i).all (fun k => grdT keys sec k) = true ∧ Below W.heap.size W wx ∧ Blk wx (W.heap.size + 1) 26 #[.int .i64 sec.f0, .int .u64 sec.f1, .slice S2 sec.f2.length j2, .slice S3 sec.f3.length j3])
            case atStart => exact ⟨0, rfl, by omega, rfl, HB1.out, HS1.out⟩
            case round =>
              obtain ⟨i, rfl, hi, hf, hbl, hsb⟩ := hrel
              have HQ := Aside0.mk hi
              have HF := Aside0.mk hf
              have HBx := Aside0.mk hbl
              have HSx := Aside0.mk hsb
              clear hi hf hbl hsb
              by_cases hlt : i < t.f3.length
              · have hl1 : decide ((i : Int) < (t.f3.length : Int)) = true := decide_eq_true (by omega)
                have hw1 : wrap64 ((i : Int) + 1) = ((i + 1 : Nat) : Int) := by rw [Aid.w64 (by omega) (by have := HM.out; omega)]; omega
                obtain ⟨ad, B2, d2, B3, d3, had, hx0, hx1, hx2, hx3, hl2, hr2, hl3, hr3⟩ := at_T26 HRK.out (i : Int) (by omega) (by omega)
                subst had
                rw [rd_at t.f3 i hlt] at hx0 hx1 hx2 hx3 hl2 hr2 hl3 hr3
                have hbm := HBx.out
                replace hx0 := (hbm.cell (World.block_lt_of_cell? _ _ hx0)).trans hx0
                replace hx1 := (hbm.cell (World.block_lt_of_cell? _ _ hx1)).trans hx1
                replace hx2 := (hbm.cell (World.block_lt_of_cell? _ _ hx2)).trans hx2
                replace hx3 := (hbm.cell (World.block_lt_of_cell? _ _ hx3)).trans hx3
                have HC := Aside0.mk (HKM.out t.f3[i] (List.getElem_mem hlt))
                have HR := Aside0.mk (⟨⟨hl2, hr2⟩, hl3, hr3⟩ : RowsT W t.f3[i] B2 d2 B3 d3)
                have HTA := Aside0.mk (take_all (f := fun k => grdT keys sec k) t.f3 i hlt)
                have HAX := Aside0.mk (show t.f3.all (fun k => grdT keys sec k) = ((t.f3.take (i + 1)).all (fun k => grdT keys sec k) && (t.f3.drop (i + 1)).all (fun k => grdT keys sec k)) by rw [← List.all_append, List.take_append_drop])
                simp only [Int.toNat_natCast] at hx0 hx1 hx2 hx3
                obtain ⟨y, hy⟩ : ∃ y, t.f3[i] = y := ⟨_, rfl⟩
                rw [hy] at hx0 hx1 hx2 hx3 HC HTA HR
                clear hbm hl2 hr2 hl3 hr3 hy
                have p1 : (0 : Int) ≤ (i : Int) := by omega
                have p2 : (i : Int) < (t.f3.length : Int) := by omega
                obtain ⟨z0, z1, z2, z3⟩ := four_cells (HSx.out.alloc (.cells #[.int .i64 y.f0, .int .u64 y.f1, .slice B2 y.f2.length d2, .slice B3 y.f3.length d3] 26))
                clear hlt
                cases he : grdT keys sec y with
                | false =>
                  unfold GrdC at HC
                  rw [he] at HC HTA
                  clear he
                  go_wp2_with (fail)
                  refine (HC.out B2 d2 B3 d3 S2 j2 S3 j3 K ck _ (RowsT.below HR.out (below_alloc HBx.out _)) (RowsT.below HSR.out (below_alloc HBx.out _)) (Kd.C_below HKR.out (below_alloc HBx.out _)) HCK.out).mono ?_
                  rintro e w4 ⟨rfl, hb⟩
                  have HB4 := Aside0.mk (below_step (below_alloc HBx.out _) hb)
                  clear hb
                  go_wp2_with (fail)
                  go_ret
                  refine ⟨?_, HB4.out⟩
                  rw [HAL.out, HAX.out, HTA.out]
                  simp
                | true =>
                  unfold GrdC at HC
                  rw [he] at HC HTA
                  clear he
                  go_wp2_with (fail)
                  refine (HC.out B2 d2 B3 d3 S2 j2 S3 j3 K ck _ (RowsT.below HR.out (below_alloc HBx.out _)) (RowsT.below HSR.out (below_alloc HBx.out _)) (Kd.C_below HKR.out (below_alloc HBx.out _)) HCK.out).mono ?_
                  rintro e w4 ⟨rfl, hb⟩
                  have HB4 := Aside0.mk (below_step (below_alloc HBx.out _) hb)
                  have HS4 := Aside0.mk ((HSx.out.alloc _).below hb)
                  clear hb
                  go_wp2_with (fail)
                  go_roundg (t.f3.length - (i + 1))
                  case measure => have := HQ.out; omega
                  case rel => exact ⟨i + 1, by first | rfl | rw [hw1], by omega, by rw [HTA.out, HF.out]; rfl, HB4.out, HS4.out⟩
              · have hl1 : decide ((i : Int) < (t.f3.length : Int)) = false := decide_eq_false (by omega)
                have HE := Aside0.mk (show t.f3.all (fun k => grdT keys sec k) = true by have h := HF.out; rw [List.take_of_length_le (by omega)] at h; exact h)
                go_wp2
                go_ret
                exact ⟨by rw [HAL.out, HE.out]; rfl, HBx.out⟩
        · have z5 : (t.f0 == 5) = false := by simp [c5]
          unfold grdK at HE2
          rw [if_neg (by simp [c5])] at HE2
          clear c5
          have HAL := Aside0.mk HE2
          clear HE2
          have HKM := HK
          have HM := Aside0.mk HTR.out.2.2.2.1
          have HRK := Aside0.mk HTR.out.2.2
          go_enter Try.func30, Try.ntmps30
          go_wp2_with (first | (go_at_call 22; refine HH.out.mono ?_; rintro e w1 ⟨rfl, hb⟩; have HB1 := Aside0.mk (below_step HB.out hb); have HT1 := Aside0.mk (HT.out.below hb); have HS1 := Aside0.mk (HS.out.below hb); obtain ⟨x0, x1, x2, x3⟩ := four_cells HT1.out; clear hb))
          go_loopg [40] t.f3.length (fun gf s40 wx => ∃ (i : Nat), s40 = .int .i64 (i : Int) ∧ i + gf = t.f3.length ∧ (t.f3.take i).all (fun k => grdT keys sec k) = true ∧ Below W.heap.size W wx ∧ Blk wx (W.heap.size + 1) 26 #[.int .i64 sec.f0, .int .u64 sec.f1, .slice S2 sec.f2.length j2, .slice S3 sec.f3.length j3])
          case atStart => exact ⟨0, rfl, by omega, rfl, HB1.out, HS1.out⟩
          case round =>
            obtain ⟨i, rfl, hi, hf, hbl, hsb⟩ := hrel
            have HQ := Aside0.mk hi
            have HF := Aside0.mk hf
            have HBx := Aside0.mk hbl
            have HSx := Aside0.mk hsb
            clear hi hf hbl hsb
            by_cases hlt : i < t.f3.length
            · have hl1 : decide ((i : Int) < (t.f3.length : Int)) = true := decide_eq_true (by omega)
              have hw1 : wrap64 ((i : Int) + 1) = ((i + 1 : Nat) : Int) := by rw [Aid.w64 (by omega) (by have := HM.out; omega)]; omega
              obtain ⟨ad, B2, d2, B3, d3, had, hx0, hx1, hx2, hx3, hl2, hr2, hl3, hr3⟩ := at_T26 HRK.out (i : Int) (by omega) (by omega)
              subst had
              rw [rd_at t.f3 i hlt] at hx0 hx1 hx2 hx3 hl2 hr2 hl3 hr3
              have hbm := HBx.out
              replace hx0 := (hbm.cell (World.block_lt_of_cell? _ _ hx0)).trans hx0
              replace hx1 := (hbm.cell (World.block_lt_of_cell? _ _ hx1)).trans hx1
              replace hx2 := (hbm.cell (World.block_lt_of_cell? _ _ hx2)).trans hx2
              replace hx3 := (hbm.cell (World.block_lt_of_cell? _ _ hx3)).trans hx3
              have HC := Aside0.mk (HKM.out t.f3[i] (List.getElem_mem hlt))
              have HR := Aside0.mk (⟨⟨hl2, hr2⟩, hl3, hr3⟩ : RowsT W t.f3[i] B2 d2 B3 d3)
              have HTA := Aside0.mk (take_all (f := fun k => grdT keys sec k) t.f3 i hlt)
              have HAX := Aside0.mk (show t.f3.all (fun k => grdT keys sec k) = ((t.f3.take (i + 1)).all (fun k => grdT keys sec k) && (t.f3.drop (i + 1)).all (fun k => grdT keys sec k)) by rw [← List.all_append, List.take_append_drop])
              simp only [Int.toNat_natCast] at hx0 hx1 hx2 hx3
              obtain ⟨y, hy⟩ : ∃ y, t.f3[i] = y := ⟨_, rfl⟩
              rw [hy] at hx0 hx1 hx2 hx3 HC HTA HR
              clear hbm hl2 hr2 hl3 hr3 hy
              have p1 : (0 : Int) ≤ (i : Int) := by omega
              have p2 : (i : Int) < (t.f3.length : Int) := by omega
              obtain ⟨z0, z1, z2, z3⟩ := four_cells (HSx.out.alloc (.cells #[.int .i64 y.f0, .int .u64 y.f1, .slice B2 y.f2.length d2, .slice B3 y.f3.length d3] 26))
              clear hlt
              cases he : grdT keys sec y with
              | false =>
                unfold GrdC at HC
                rw [he] at HC HTA
                clear he
                go_wp2_with (fail)
                refine (HC.out B2 d2 B3 d3 S2 j2 S3 j3 K ck _ (RowsT.below HR.out (below_alloc HBx.out _)) (RowsT.below HSR.out (below_alloc HBx.out _)) (Kd.C_below HKR.out (below_alloc HBx.out _)) HCK.out).mono ?_
                rintro e w4 ⟨rfl, hb⟩
                have HB4 := Aside0.mk (below_step (below_alloc HBx.out _) hb)
                clear hb
                go_wp2_with (fail)
                go_ret
                refine ⟨?_, HB4.out⟩
                rw [HAL.out, HAX.out, HTA.out]
                simp
              | true =>
                unfold GrdC at HC
                rw [he] at HC HTA
                clear he
                go_wp2_with (fail)
                refine (HC.out B2 d2 B3 d3 S2 j2 S3 j3 K ck _ (RowsT.below HR.out (below_alloc HBx.out _)) (RowsT.below HSR.out (below_alloc HBx.out _)) (Kd.C_below HKR.out (below_alloc HBx.out _)) HCK.out).mono ?_
                rintro e w4 ⟨rfl, hb⟩
                have HB4 := Aside0.mk (below_step (below_alloc HBx.out _) hb)
                have HS4 := Aside0.mk ((HSx.out.alloc _).below hb)
                clear hb
                go_wp2_with (fail)
                go_roundg (t.f3.length - (i + 1))
                case measure => have := HQ.out; omega
                case rel => exact ⟨i + 1, by first | rfl | rw [hw1], by omega, by rw [HTA.out, HF.out]; rfl, HB4.out, HS4.out⟩
            · have hl1 : decide ((i : Int) < (t.f3.length : Int)) = false := decide_eq_false (by omega)
              have HE := Aside0.mk (show t.f3.all (fun k => grdT keys sec k) = true by have h := HF.out; rw [List.take_of_length_le (by omega)] at h; exact h)
              go_wp2
              go_ret
              exact ⟨by rw [HAL.out, HE.out]; rfl, HBx.out⟩
end Go.Proofs.Ytgohmganimamcaa.Term
-- printed for this claim by a program (pall.sh)
-- mended by fixpz.py
namespace Go.Proofs.Ytgohmganimamcaa.PZ
open Go.RowKit Go.Proofs.YtgohmganimamcaaW.PrintWords Go.Proofs.YtgohmganimamcaaW.PrintLast Go.Proofs.YtgohmganimamcaaW.PrintMore
attribute [local go_sem] max2_int min2_int max_two min_two max_three min_three max_four min_four   -- for this text's walks alone
set_option linter.unusedVariables false
set_option linter.unusedSimpArgs false

/-! ### hanaperlaw06_num: function 28 -/
def hanaperlaw06_num.f (a0 : Int) : Option (Int) := some a0
set_option maxHeartbeats 8000000 in
set_option maxRecDepth 100000 in
theorem hanaperlaw06_num.calls (a0 : Int) (r : Int) (w : World) (h : hanaperlaw06_num.f a0 = some r) :
  Calls Try.prog 28 #[.int .i64 a0] w fun e w' => e = .returned (.int .i64 r) ∧ Drawn0 w w' := by
 have H : (some a0) = some r := h
 clear h
 obtain rfl := Option.some.inj H
 go_enter Try.func28, Try.ntmps28
 go_wp2
 go_ret
 exact ⟨by first | rfl | (simp; done) | (simp [*]; done), by repeat (first | exact Drawn0.refl _ | apply Drawn0.step)⟩

end Go.Proofs.Ytgohmganimamcaa.PZ
