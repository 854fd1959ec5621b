/- Own and printed texts, laid together. -/
import Derived.Test.YtfpkgdenohcglaaCrME
import Derived.Test.YtfpkgdenohcglaaCrMC
import Derived.Test.YtfpkgdenohcglaaCrMB
/- cert.Make and the document's Make walked (printed by gen_crtmake.py). -/
namespace Go.Proofs.Ytfpkgdenohcglaa.Crt
set_option linter.unusedVariables false
set_option linter.unusedSimpArgs false
open Go.RowKit Go.Proofs.Ytfpkgdenohcglaa.Base Go.Proofs.Ytfpkgdenohcglaa.TlvPlain Go.Proofs.Ytfpkgdenohcglaa.Lo Go.Proofs.Ytfpkgdenohcglaa.RdPlain Go.Proofs.Ytfpkgdenohcglaa.Aid Go.Proofs.Ytfpkgdenohcglaa.ShaPlain Go.Proofs.Ytfpkgdenohcglaa.Sha Go.Proofs.Ytfpkgdenohcglaa.Com Go.Proofs.Ytfpkgdenohcglaa.Chn Go.Proofs.Ytfpkgdenohcglaa.Evt Go.Proofs.YtfpkgdenohcglaaW.PrintWords Go.Proofs.YtfpkgdenohcglaaW.PrintLast Go.Proofs.YtfpkgdenohcglaaW.PrintMore
abbrev RetC (w : World) (r : Cer × Int) : Ending → World → Prop := fun e w' => ∃ v, e = .returned (.tuple #[.agg #[.string r.1.1, .int .i64 r.1.2.1, .int .u64 r.1.2.2.1, v], .int .i64 r.2]) ∧ Ob w' w.heap.size v r.1.2.2.2 ∧ Below w.heap.size w w'
theorem info_crtS : (Try.prog.info? 53).map (·.size) = some 4 := by kernel_rfl
theorem makeT_in {l : List Ent} {k : Nat} (hk : k < l.length) : makeT l (k : Int) = if redE l[k] = true then ((zC, 13) : Cer × Int) else match endedT (payE l[k]) with
    | none => (zC, 13)
    | some x => if 120 ≤ (k : Int) then (zC, 1) else ((x.2.2.1, (k : Int), saltE l[k], payE l[k]), 0) := by
  unfold makeT
  rw [if_neg (by omega), Int.toNat_natCast, List.getElem?_eq_getElem hk]
  rfl
theorem makeT_out {l : List Ent} {i : Int} (h : i < 0 ∨ (l.length : Int) ≤ i) : makeT l i = (zC, 5) := by unfold makeT; rw [if_pos h]
set_option maxHeartbeats 8000000 in
set_option maxRecDepth 100000 in
theorem make_c (l : List Ent) (m : Nat) (hl : l.length = m) (hm : m ≤ 1000000) (hu : Lu' l) (hs : ∀ x ∈ l, (payE x).length ≤ 100000) (i : Int) (A : Option Addr) (c : Nat) (w : World) (hr : Re w A l) :
    Calls Try.prog 30 #[.slice A m c, .int .i64 i] w (RetC w (makeT l i)) := by
  unfold RetC
  have HB := Aside0.mk (below_alloc (Below.refl w.heap.size w) (.cells #[.string ⟨#[]⟩, .int .i64 0, .int .u64 0, .slice none 0 0] 53))
  have H0 := Aside0.mk (show Blk (w.alloc (.cells #[.string ⟨#[]⟩, .int .i64 0, .int .u64 0, .slice none 0 0] 53)) w.heap.size 53 #[.string ⟨#[]⟩, .int .i64 0, .int .u64 0, .slice none 0 0] from blk_new _ _)
  have hu53 := Try.underlying53
  have hu60 := Try.underlying60
  have z0 := H0.out.cell 0
  have z1 := H0.out.cell 1
  have z2 := H0.out.cell 2
  have z3 := H0.out.cell 3
  simp only [List.getElem?_toArray, List.getElem?_cons_zero, List.getElem?_cons_succ] at z0 z1 z2 z3
  have u0 := blk_frozen H0.out 0
  have u1 := blk_frozen H0.out 1
  have u2 := blk_frozen H0.out 2
  have u3 := blk_frozen H0.out 3
  by_cases h0 : i < 0
  · have HE := Aside0.mk (makeT_out (l := l) (.inl h0))
    have d0 : decide (i < 0) = true := decide_eq_true h0
    clear hl hm hu hs hr h0
    go_enter Try.func30, Try.ntmps30
    go_wp2_with (fail)
    refine bodyPost_ret (results_ct rfl _ _ w.heap.size 53 #[.string ⟨#[]⟩, .int .i64 0, .int .u64 0, .slice none 0 0] (0, 0) _ rfl H0.out Try.underlying53 rfl (by kernel_rfl)) rfl ?_
    rw [HE.out]
    exact ⟨_, rfl, Kd.R_nil _ _ _ _ _, HB.out⟩
  by_cases h1 : (m : Int) ≤ i
  · have HE := Aside0.mk (makeT_out (l := l) (i := i) (.inr (by omega)))
    have d0 : decide (i < 0) = false := decide_eq_false h0
    have d1 : decide ((m : Int) ≤ i) = true := decide_eq_true h1
    clear hl hm hu hs hr h0 h1
    go_enter Try.func30, Try.ntmps30
    go_wp2_with (fail)
    refine bodyPost_ret (results_ct rfl _ _ w.heap.size 53 #[.string ⟨#[]⟩, .int .i64 0, .int .u64 0, .slice none 0 0] (0, 0) _ rfl H0.out Try.underlying53 rfl (by kernel_rfl)) rfl ?_
    rw [HE.out]
    exact ⟨_, rfl, Kd.R_nil _ _ _ _ _, HB.out⟩
  obtain ⟨k, rfl⟩ : ∃ k : Nat, (k : Int) = i := ⟨i.toNat, by omega⟩
  have hkl : k < l.length := by omega
  have HE := Aside0.mk (makeT_in hkl)
  obtain ⟨ad, P, C, B, cb, rfl, hat, hC⟩ := re_at hr k hkl
  have hE := hu _ (List.getElem_mem hkl)
  have hpl := hs _ (List.getElem_mem hkl)
  obtain ⟨x, hx⟩ : ∃ x, l[k] = x := ⟨_, rfl⟩
  rw [hx] at hat hC hE hpl HE
  have HEF := Aside0.mk (entF hC.fp.lenC hC.fc.lenC hat)
  have HALL := Aside0.mk (fun V (hV : Below w.heap.size w V) => show V.cell? ⟨(ad.add (k * 68)).block, (ad.add (k * 68)).off + 65, none⟩ = some (.int .u64 (saltE x)) ∧ V.cell? ⟨(ad.add (k * 68)).block, (ad.add (k * 68)).off + 66, none⟩ = some (.slice B (payE x).length cb) ∧ V.cell? ⟨(ad.add (k * 68)).block, (ad.add (k * 68)).off + 67, none⟩ = some (.bool (redE x)) from ⟨(HEF.out.below hV).sl, (HEF.out.below hV).py, (HEF.out.below hV).r⟩)
  have HEND := Aside0.mk (fun V (hV : Below w.heap.size w V) => ended_c V B cb (payE x) (Kd.C_below hC.r hV) hC.hc (by omega) hE.u)
  have HCLO := Aside0.mk (fun V (hV : Below w.heap.size w V) => Tlv.clone B cb (payE x) V (Kd.C_below hC.r hV) hC.hc (by omega))
  skip
  skip
  obtain ⟨sl, hsl⟩ : ∃ t, saltE x = t := ⟨_, rfl⟩
  obtain ⟨rd, hrd⟩ : ∃ t, redE x = t := ⟨_, rfl⟩
  obtain ⟨py, hpy⟩ : ∃ t, payE x = t := ⟨_, rfl⟩
  rw [hsl] at HALL HE
  rw [hrd] at HALL HE
  rw [hpy] at HALL HE HEND HCLO
  have p0 : (0 : Int) ≤ (k : Int) := by omega
  have p1 : (k : Int) < (m : Int) := by omega
  have p2 : (k : Int) ≤ 1000000 := by omega
  have d0 : decide ((k : Int) < 0) = false := decide_eq_false (by omega)
  have d1 : decide ((m : Int) ≤ (k : Int)) = false := decide_eq_false h1
  have d2 : decide (m ≤ k) = false := decide_eq_false (by omega)
  obtain ⟨a1, a2, a3⟩ := HALL.out _ HB.out
  clear hl hm hu hs hr h0 h1 hkl hat hC hE hpl hx hsl hrd hpy
  go_enter Try.func30, Try.ntmps30
  go_wp2_with (fail)
  clear a1 a2 a3 z0 u0 z1 u1 z2 u2 z3 u3
  refine (HEND.out _ HB.out).mono ?_
  rintro e w2 ⟨rfl, hb⟩
  have HB2 := Aside0.mk (below_step HB.out hb)
  have H2 := Aside0.mk (H0.out.below hb)
  clear hb
  cases heo : endedT py with
  | none =>
    rw [heo] at HE
    dsimp only at HE
    have HE := Aside0.mk (show makeT l (k : Int) = (zC, 13) from by rw [HE.out]; cases rd <;> rfl)
    obtain ⟨ek, et, ea, eb, hq⟩ : ∃ a b c d, ((none : Option Evn).getD zEv) = (a, b, c, d) := ⟨_, _, _, _, rfl⟩
    rw [hq]
    clear heo hq
    dsimp only
    rw [show (none : Option Evn).isSome = false from rfl]
    go_upto_region 4 with (fail)
    have HB3 := Aside0.mk (below_alloc HB2.out (.cells #[.int .i64 ek, .int .i64 et, .string ea, .string eb] 60))
    have H3 := Aside0.mk (H2.out.below (below_alloc (Below.refl _ _) (.cells #[.int .i64 ek, .int .i64 et, .string ea, .string eb] 60)))
    have H6 := Aside0.mk (show Blk (w2.alloc (.cells #[.int .i64 ek, .int .i64 et, .string ea, .string eb] 60)) w2.heap.size 60 #[.int .i64 ek, .int .i64 et, .string ea, .string eb] from blk_new _ _)
    have HN := Aside0.mk (show w.heap.size < w2.heap.size from H2.out.lt)
    obtain ⟨w3, hw_⟩ : ∃ V, w2.alloc (.cells #[.int .i64 ek, .int .i64 et, .string ea, .string eb] 60) = V := ⟨_, rfl⟩
    obtain ⟨g6, hg_⟩ : ∃ V, w2.heap.size = V := ⟨_, rfl⟩
    rw [hw_] at HB3 H3 H6
    rw [hg_] at H6 HN
    rw [hw_, hg_]
    clear hw_ hg_ H2 HB2
    obtain ⟨a1, a2, a3⟩ := HALL.out _ HB3.out
    have z0 := H3.out.cell 0
    have z1 := H3.out.cell 1
    have z2 := H3.out.cell 2
    have z3 := H3.out.cell 3
    simp only [List.getElem?_toArray, List.getElem?_cons_zero, List.getElem?_cons_succ] at z0 z1 z2 z3
    have u0 := blk_frozen H3.out 0
    have u1 := blk_frozen H3.out 1
    have u2 := blk_frozen H3.out 2
    have u3 := blk_frozen H3.out 3
    have x0 := H6.out.cell 0
    have x1 := H6.out.cell 1
    have x2 := H6.out.cell 2
    have x3 := H6.out.cell 3
    simp only [List.getElem?_toArray, List.getElem?_cons_zero, List.getElem?_cons_succ] at x0 x1 x2 x3
    cases rd with
    | true =>
      go_wp2_with (fail)
      refine bodyPost_ret (results_ct rfl _ _ w.heap.size 53 #[.string ⟨#[]⟩, .int .i64 0, .int .u64 0, .slice none 0 0] (0, 0) _ rfl (set4 H3.out _ _ _ _) Try.underlying53 rfl (by kernel_rfl)) rfl ?_
      rw [HE.out]
      exact ⟨_, rfl, Kd.R_nil _ _ _ _ _, below_set4 HB3.out (Nat.le_refl _) _ _ _ _⟩
    | false =>
      go_wp2_with (fail)
      refine bodyPost_ret (results_ct rfl _ _ w.heap.size 53 #[.string ⟨#[]⟩, .int .i64 0, .int .u64 0, .slice none 0 0] (0, 0) _ rfl (set4 H3.out _ _ _ _) Try.underlying53 rfl (by kernel_rfl)) rfl ?_
      rw [HE.out]
      exact ⟨_, rfl, Kd.R_nil _ _ _ _ _, below_set4 HB3.out (Nat.le_refl _) _ _ _ _⟩
  | some q =>
    obtain ⟨ek, et, ea, eb⟩ := q
    rw [heo] at HE
    dsimp only at HE
    rw [show (some ((ek, et, ea, eb) : Evn)).getD zEv = (ek, et, ea, eb) from rfl, show (some ((ek, et, ea, eb) : Evn)).isSome = true from rfl]
    clear heo
    dsimp only
    go_upto_region 4 with (fail)
    have HB3 := Aside0.mk (below_alloc HB2.out (.cells #[.int .i64 ek, .int .i64 et, .string ea, .string eb] 60))
    have H3 := Aside0.mk (H2.out.below (below_alloc (Below.refl _ _) (.cells #[.int .i64 ek, .int .i64 et, .string ea, .string eb] 60)))
    have H6 := Aside0.mk (show Blk (w2.alloc (.cells #[.int .i64 ek, .int .i64 et, .string ea, .string eb] 60)) w2.heap.size 60 #[.int .i64 ek, .int .i64 et, .string ea, .string eb] from blk_new _ _)
    have HN := Aside0.mk (show w.heap.size < w2.heap.size from H2.out.lt)
    obtain ⟨w3, hw_⟩ : ∃ V, w2.alloc (.cells #[.int .i64 ek, .int .i64 et, .string ea, .string eb] 60) = V := ⟨_, rfl⟩
    obtain ⟨g6, hg_⟩ : ∃ V, w2.heap.size = V := ⟨_, rfl⟩
    rw [hw_] at HB3 H3 H6
    rw [hg_] at H6 HN
    rw [hw_, hg_]
    clear hw_ hg_ H2 HB2
    obtain ⟨a1, a2, a3⟩ := HALL.out _ HB3.out
    have z0 := H3.out.cell 0
    have z1 := H3.out.cell 1
    have z2 := H3.out.cell 2
    have z3 := H3.out.cell 3
    simp only [List.getElem?_toArray, List.getElem?_cons_zero, List.getElem?_cons_succ] at z0 z1 z2 z3
    have u0 := blk_frozen H3.out 0
    have u1 := blk_frozen H3.out 1
    have u2 := blk_frozen H3.out 2
    have u3 := blk_frozen H3.out 3
    have x0 := H6.out.cell 0
    have x1 := H6.out.cell 1
    have x2 := H6.out.cell 2
    have x3 := H6.out.cell 3
    simp only [List.getElem?_toArray, List.getElem?_cons_zero, List.getElem?_cons_succ] at x0 x1 x2 x3
    cases rd with
    | true =>
      rw [if_pos rfl] at HE
      go_wp2_with (fail)
      refine bodyPost_ret (results_ct rfl _ _ w.heap.size 53 #[.string ⟨#[]⟩, .int .i64 0, .int .u64 0, .slice none 0 0] (0, 0) _ rfl (set4 H3.out _ _ _ _) Try.underlying53 rfl (by kernel_rfl)) rfl ?_
      rw [HE.out]
      exact ⟨_, rfl, Kd.R_nil _ _ _ _ _, below_set4 HB3.out (Nat.le_refl _) _ _ _ _⟩
    | false =>
      rw [if_neg Bool.false_ne_true] at HE
      by_cases h120 : (120 : Int) ≤ (k : Int)
      · have d3 : decide ((120 : Int) ≤ (k : Int)) = true := decide_eq_true h120
        have d4 : decide (120 ≤ k) = true := decide_eq_true (by omega)
        rw [if_pos h120] at HE
        clear h120
        go_wp2_with (fail)
        refine bodyPost_ret (results_ct rfl _ _ w.heap.size 53 #[.string ⟨#[]⟩, .int .i64 0, .int .u64 0, .slice none 0 0] (0, 0) _ rfl (set4 H3.out _ _ _ _) Try.underlying53 rfl (by kernel_rfl)) rfl ?_
        rw [HE.out]
        exact ⟨_, rfl, Kd.R_nil _ _ _ _ _, below_set4 HB3.out (Nat.le_refl _) _ _ _ _⟩
      · have d3 : decide ((120 : Int) ≤ (k : Int)) = false := decide_eq_false h120
        have d4 : decide (120 ≤ k) = false := decide_eq_false (by omega)
        rw [if_neg h120] at HE
        clear h120
        go_upto_region 8 with (fail)
        have HAV := Aside0.mk (fun V (hV : Below w3.heap.size w3 V) => show V.cell? ⟨g6, 2, none⟩ = some (.string ea) ∧ V.cell? ⟨(ad.add (k * 68)).block, (ad.add (k * 68)).off + 65, none⟩ = some (.int .u64 sl) ∧ V.cell? ⟨(ad.add (k * 68)).block, (ad.add (k * 68)).off + 66, none⟩ = some (.slice B py.length cb) from
          ⟨((H6.out.below hV).cell 2).trans rfl, (HALL.out _ (below_step HB3.out hV)).1, (HALL.out _ (below_step HB3.out hV)).2.1⟩)
        clear a1 a2 a3 z0 u0 x0 z1 u1 x1 z2 u2 x2 z3 u3 x3
        refine wp_region_held_drew (S := fun V => V.cell? ⟨g6, 2, none⟩ = some (.string ea) ∧ V.cell? ⟨(ad.add (k * 68)).block, (ad.add (k * 68)).off + 65, none⟩ = some (.int .u64 sl) ∧ V.cell? ⟨(ad.add (k * 68)).block, (ad.add (k * 68)).off + 66, none⟩ = some (.slice B py.length cb)) (by kernel_rfl) (HAV.out _ (below_drew1 (Below.refl _ _))) (fun hHeld => ?_)
        (refine wpAnyH_take (i := 0) (v := ?_) rfl (by kernel_rfl) (by kernel_rfl) (by kernel_rfl) (fun _ _ _ h => h) (Or.inl ⟨by rfl, ?_⟩) (by assumption) ?_; (case' refine_2 => (intro w hSw; go_simp; try with_reducible rfl)); (try simp only [Act.put, List.getElem_toArray, List.getElem_cons_zero, List.getElem_cons_succ, List.setIfInBounds_toArray, List.set_cons_zero, List.set_cons_succ]))
        (refine wpAnyH_take (i := 1) (v := ?_) rfl (by kernel_rfl) (by kernel_rfl) (by kernel_rfl) (fun _ _ _ h => h) (Or.inl ⟨by rfl, ?_⟩) (by assumption) ?_; (case' refine_2 => (intro w hSw; go_simp; try with_reducible rfl)); (try simp only [Act.put, List.getElem_toArray, List.getElem_cons_zero, List.getElem_cons_succ, List.setIfInBounds_toArray, List.set_cons_zero, List.set_cons_succ]))
        (refine wpAnyH_take (i := 2) (v := ?_) rfl (by kernel_rfl) (by kernel_rfl) (by kernel_rfl) (fun _ _ _ h => h) (Or.inl ⟨by rfl, ?_⟩) (by assumption) ?_; (case' refine_2 => (intro w hSw; go_simp; try with_reducible rfl)); (try simp only [Act.put, List.getElem_toArray, List.getElem_cons_zero, List.getElem_cons_succ, List.setIfInBounds_toArray, List.set_cons_zero, List.set_cons_succ]))
        (refine wpAnyH_take (i := 3) (v := ?_) rfl (by kernel_rfl) (by kernel_rfl) (by kernel_rfl) (fun _ _ _ h => h) (Or.inl ⟨by rfl, ?_⟩) (by assumption) ?_; (case' refine_2 => (intro w hSw; go_simp; try with_reducible rfl)); (try simp only [Act.put, List.getElem_toArray, List.getElem_cons_zero, List.getElem_cons_succ, List.setIfInBounds_toArray, List.set_cons_zero, List.set_cons_succ]))
        (refine wpAnyH_take (i := 4) (v := ?_) rfl (by kernel_rfl) (by kernel_rfl) (by kernel_rfl) (fun _ _ _ h => h) (Or.inl ⟨by rfl, ?_⟩) (by assumption) ?_; (case' refine_2 => (intro w hSw; go_simp; try with_reducible rfl)); (try simp only [Act.put, List.getElem_toArray, List.getElem_cons_zero, List.getElem_cons_succ, List.setIfInBounds_toArray, List.set_cons_zero, List.set_cons_succ]))
        (refine wpAnyH_take (i := 5) (v := ?_) rfl (by kernel_rfl) (by kernel_rfl) (by kernel_rfl) (fun _ _ _ h => h) (Or.inl ⟨by rfl, ?_⟩) (by assumption) ?_; (case' refine_2 => (intro w hSw; go_simp; try with_reducible rfl)); (try simp only [Act.put, List.getElem_toArray, List.getElem_cons_zero, List.getElem_cons_succ, List.setIfInBounds_toArray, List.set_cons_zero, List.set_cons_succ]))
        (refine wpAnyH_take (i := 6) (v := ?_) rfl (by kernel_rfl) (by kernel_rfl) (by kernel_rfl) (fun _ _ _ h => h) (Or.inl ⟨by rfl, ?_⟩) (by assumption) ?_; (case' refine_2 => (intro w hSw; go_simp; try with_reducible rfl)); (try simp only [Act.put, List.getElem_toArray, List.getElem_cons_zero, List.getElem_cons_succ, List.setIfInBounds_toArray, List.set_cons_zero, List.set_cons_succ]))
        (refine wpAnyH_take (i := 7) (v := ?_) rfl (by kernel_rfl) (by kernel_rfl) (by kernel_rfl) (fun _ _ _ h => h) (Or.inl ⟨by rfl, ?_⟩) (by assumption) ?_; (case' refine_2 => (intro w hSw; go_simp; try with_reducible rfl)); (try simp only [Act.put, List.getElem_toArray, List.getElem_cons_zero, List.getElem_cons_succ, List.setIfInBounds_toArray, List.set_cons_zero, List.set_cons_succ]))
        (refine wpAnyH_take (i := 8) (v := ?_) rfl (by kernel_rfl) (by kernel_rfl) (by kernel_rfl) (fun _ _ _ h => h) (Or.inl ⟨by rfl, ?_⟩) (by assumption) ?_; (case' refine_2 => (intro w hSw; go_simp; try with_reducible rfl)); (try simp only [Act.put, List.getElem_toArray, List.getElem_cons_zero, List.getElem_cons_succ, List.setIfInBounds_toArray, List.set_cons_zero, List.set_cons_succ]))
        (refine wpAnyH_take (i := 9) (v := ?_) rfl (by kernel_rfl) (by kernel_rfl) (by kernel_rfl) (fun _ _ _ h => h) (Or.inl ⟨by rfl, ?_⟩) (by assumption) ?_; (case' refine_2 => (intro w hSw; go_simp; try with_reducible rfl)); (try simp only [Act.put, List.getElem_toArray, List.getElem_cons_zero, List.getElem_cons_succ, List.setIfInBounds_toArray, List.set_cons_zero, List.set_cons_succ]))
        (refine wpAnyH_take (i := 10) (v := ?_) rfl (by kernel_rfl) (by kernel_rfl) (by kernel_rfl) (fun _ _ _ h => h) (Or.inl ⟨by rfl, ?_⟩) (by assumption) ?_; (case' refine_2 => (intro w hSw; go_simp; try with_reducible rfl)); (try simp only [Act.put, List.getElem_toArray, List.getElem_cons_zero, List.getElem_cons_succ, List.setIfInBounds_toArray, List.set_cons_zero, List.set_cons_succ]))
        (refine wpAnyH_take (i := 11) (v := ?_) rfl (by kernel_rfl) (by kernel_rfl) (by kernel_rfl) (fun _ _ _ h => h) (Or.inl ⟨by rfl, ?_⟩) (by assumption) ?_; (case' refine_2 => (intro w hSw; go_simp; try with_reducible rfl)); (try simp only [Act.put, List.getElem_toArray, List.getElem_cons_zero, List.getElem_cons_succ, List.setIfInBounds_toArray, List.set_cons_zero, List.set_cons_succ]))
        (refine wpAnyH_take (i := 12) (v := ?_) rfl (by kernel_rfl) (by kernel_rfl) (by kernel_rfl) (fun _ _ _ h => h) (Or.inl ⟨by rfl, ?_⟩) (by assumption) ?_; (case' refine_2 => (intro w hSw; go_simp; try with_reducible rfl)); (try simp only [Act.put, List.getElem_toArray, List.getElem_cons_zero, List.getElem_cons_succ, List.setIfInBounds_toArray, List.set_cons_zero, List.set_cons_succ]))
        (refine wpAnyH_ready (rs := [13]) (by kernel_rfl) (by simp) (AllReadyH.cons rfl (fun K hK => ?_) AllReadyH.nil); go_simp)
        refine (HCLO.out _ (below_drew1 HB3.out)).mono ?_
        rintro e w9 ⟨v, rfl, ho, hb⟩
        obtain ⟨A9, c9, rfl⟩ := Kd.R_slice ho
        have hb2 := below_drew_of hb
        have HB9 := Aside0.mk (below_step HB3.out hb2)
        have H9 := Aside0.mk (H3.out.below hb2)
        have HO9 := Aside0.mk (show Kd.R (Kd.int .u8) 5 w9 w.heap.size (fun k => k ≠ w.heap.size) (.slice A9 py.length c9) py from Kd.R_lower (Kd.R_mono (Kd.R_bound ho) (fun k hk => by have h1 := hk.2.1; have h2 := (below_drew1 HB3.out).size; have h3 := H3.out.lt; have h4 : w3.drew.heap.size = w3.heap.size := rfl; omega)) (below_drew1 HB3.out).size)
        clear ho hb
        (refine Shut.out hK _ _ (HAV.out _ hb2) (fun hHeld => ?_); clear hK K; (try simp only [Act.put, List.getElem_toArray, List.getElem_cons_zero, List.getElem_cons_succ, List.setIfInBounds_toArray, List.set_cons_zero, List.set_cons_succ]))
        clear hb2
        (refine wpAnyH_take (i := 14) (v := ?_) rfl (by kernel_rfl) (by kernel_rfl) (by kernel_rfl) (fun _ _ _ h => h) (Or.inl ⟨by rfl, ?_⟩) (by assumption) ?_; (case' refine_2 => (intro w hSw; go_simp; try with_reducible rfl)); (try simp only [Act.put, List.getElem_toArray, List.getElem_cons_zero, List.getElem_cons_succ, List.setIfInBounds_toArray, List.set_cons_zero, List.set_cons_succ]))
        refine wpAnyH_ready (rs := [15]) (by kernel_rfl) (by simp) (AllReadyH.cons rfl (fun K hK => ?_) AllReadyH.nil)
        rw [if_pos (by rfl)]
        refine wp_store_row 53 (.tmp 4) (.tmp 55) rfl w.heap.size #[.string ea, .int .i64 k, .int .u64 sl, .slice A9 py.length c9] rfl rfl 53 #[.string ⟨#[]⟩, .int .i64 0, .int .u64 0, .slice none 0 0] H9.out info_crtS rfl (by simp [Value.oneCell']) ?_
        have hg := grown_setRow w9 w.heap.size #[.string ea, .int .i64 k, .int .u64 sl, .slice A9 py.length c9]
        have HSR := Aside0.mk (setRow_heap w9 w.heap.size #[.string ⟨#[]⟩, .int .i64 0, .int .u64 0, .slice none 0 0] #[.string ea, .int .i64 k, .int .u64 sl, .slice A9 py.length c9] _ _ H9.out)
        have HBa := Aside0.mk (below_setRow HB9.out (Nat.le_refl _) #[.string ea, .int .i64 k, .int .u64 sl, .slice A9 py.length c9])
        have HOa := Aside0.mk (Kd.R_grown HO9.out hg (fun k hk e => hk (by injection e)))
        have HSa := Aside0.mk (show (w9.setRow w.heap.size #[.string ea, .int .i64 k, .int .u64 sl, .slice A9 py.length c9]).cell? ⟨g6, 2, none⟩ = some (.string ea) ∧ (w9.setRow w.heap.size #[.string ea, .int .i64 k, .int .u64 sl, .slice A9 py.length c9]).cell? ⟨(ad.add (k * 68)).block, (ad.add (k * 68)).off + 65, none⟩ = some (.int .u64 sl) ∧ (w9.setRow w.heap.size #[.string ea, .int .i64 k, .int .u64 sl, .slice A9 py.length c9]).cell? ⟨(ad.add (k * 68)).block, (ad.add (k * 68)).off + 66, none⟩ = some (.slice B py.length cb) from
          ⟨(World.grownBy.cell_far hg _ (World.block_lt_of_cell? _ _ hHeld.1) (fun e => by injection e with e; have e : g6 = w.heap.size := e; have := HN.out; omega)).trans hHeld.1, (HALL.out _ HBa.out).1, (HALL.out _ HBa.out).2.1⟩)
        obtain ⟨wa, hw_⟩ : ∃ V, w9.setRow w.heap.size #[.string ea, .int .i64 k, .int .u64 sl, .slice A9 py.length c9] = V := ⟨_, rfl⟩
        rw [hw_] at HSR HBa HOa HSa
        rw [hw_]
        clear hw_ hg
        (refine Shut.out hK _ _ HSa.out (fun hHeld => ?_); clear hK K; (try simp only [Act.put, List.getElem_toArray, List.getElem_cons_zero, List.getElem_cons_succ, List.setIfInBounds_toArray, List.set_cons_zero, List.set_cons_succ]))
        (refine wpAnyH_take (i := 16) (v := ?_) rfl (by kernel_rfl) (by kernel_rfl) (by kernel_rfl) (fun _ _ _ h => h) (Or.inl ⟨by rfl, ?_⟩) (by assumption) ?_; (case' refine_2 => (intro w hSw; go_simp; try with_reducible rfl)); (try simp only [Act.put, List.getElem_toArray, List.getElem_cons_zero, List.getElem_cons_succ, List.setIfInBounds_toArray, List.set_cons_zero, List.set_cons_succ]))
        refine wpAnyH_done (by kernel_rfl) ?_ _
        go_wp2_with (fail)
        refine bodyPost_ret (results_ct rfl _ _ w.heap.size 53 #[.string ea, .int .i64 k, .int .u64 sl, .slice A9 py.length c9] (0, 0) _ rfl HSR.out Try.underlying53 rfl (by kernel_rfl)) rfl ?_
        rw [HE.out]
        exact ⟨_, rfl, Kd.R_mono HOa.out (fun _ _ => trivial), HBa.out⟩
set_option maxHeartbeats 8000000 in
set_option maxRecDepth 100000 in
theorem rmake_c (l : List Ent) (m : Nat) (hl : l.length = m) (hm : m ≤ 1000000) (hu : Lu' l) (hs : ∀ x ∈ l, (payE x).length ≤ 100000) (i : Int) (A : Option Addr) (c : Nat) (w : World) (hr : Re w A l) :
    Calls Try.prog 31 #[.slice A m c, .int .i64 i] w (RetC w (makeT l i)) := by
  unfold RetC
  have HB := Aside0.mk (below_alloc (Below.refl w.heap.size w) (.cells #[.string ⟨#[]⟩, .int .i64 0, .int .u64 0, .slice none 0 0] 53))
  have H0 := Aside0.mk (show Blk (w.alloc (.cells #[.string ⟨#[]⟩, .int .i64 0, .int .u64 0, .slice none 0 0] 53)) w.heap.size 53 #[.string ⟨#[]⟩, .int .i64 0, .int .u64 0, .slice none 0 0] from blk_new _ _)
  have hu53 := Try.underlying53
  have hu60 := Try.underlying60
  have z0 := H0.out.cell 0
  have z1 := H0.out.cell 1
  have z2 := H0.out.cell 2
  have z3 := H0.out.cell 3
  simp only [List.getElem?_toArray, List.getElem?_cons_zero, List.getElem?_cons_succ] at z0 z1 z2 z3
  have u0 := blk_frozen H0.out 0
  have u1 := blk_frozen H0.out 1
  have u2 := blk_frozen H0.out 2
  have u3 := blk_frozen H0.out 3
  by_cases h0 : i < 0
  · have HE := Aside0.mk (makeT_out (l := l) (.inl h0))
    have d0 : decide (i < 0) = true := decide_eq_true h0
    clear hl hm hu hs hr h0
    go_enter Try.func31, Try.ntmps31
    go_wp2_with (fail)
    refine bodyPost_ret (results_ct rfl _ _ w.heap.size 53 #[.string ⟨#[]⟩, .int .i64 0, .int .u64 0, .slice none 0 0] (0, 0) _ rfl H0.out Try.underlying53 rfl (by kernel_rfl)) rfl ?_
    rw [HE.out]
    exact ⟨_, rfl, Kd.R_nil _ _ _ _ _, HB.out⟩
  by_cases h1 : (m : Int) ≤ i
  · have HE := Aside0.mk (makeT_out (l := l) (i := i) (.inr (by omega)))
    have d0 : decide (i < 0) = false := decide_eq_false h0
    have d1 : decide ((m : Int) ≤ i) = true := decide_eq_true h1
    clear hl hm hu hs hr h0 h1
    go_enter Try.func31, Try.ntmps31
    go_wp2_with (fail)
    refine bodyPost_ret (results_ct rfl _ _ w.heap.size 53 #[.string ⟨#[]⟩, .int .i64 0, .int .u64 0, .slice none 0 0] (0, 0) _ rfl H0.out Try.underlying53 rfl (by kernel_rfl)) rfl ?_
    rw [HE.out]
    exact ⟨_, rfl, Kd.R_nil _ _ _ _ _, HB.out⟩
  obtain ⟨k, rfl⟩ : ∃ k : Nat, (k : Int) = i := ⟨i.toNat, by omega⟩
  have hkl : k < l.length := by omega
  have HE := Aside0.mk (makeT_in hkl)
  obtain ⟨ad, P, C, B, cb, rfl, hat, hC⟩ := re_at hr k hkl
  have hE := hu _ (List.getElem_mem hkl)
  have hpl := hs _ (List.getElem_mem hkl)
  obtain ⟨x, hx⟩ : ∃ x, l[k] = x := ⟨_, rfl⟩
  rw [hx] at hat hC hE hpl HE
  have HEF := Aside0.mk (entF hC.fp.lenC hC.fc.lenC hat)
  have HALL := Aside0.mk (fun V (hV : Below w.heap.size w V) => show V.cell? ⟨(ad.add (k * 68)).block, (ad.add (k * 68)).off + 65, none⟩ = some (.int .u64 (saltE x)) ∧ V.cell? ⟨(ad.add (k * 68)).block, (ad.add (k * 68)).off + 66, none⟩ = some (.slice B (payE x).length cb) ∧ V.cell? ⟨(ad.add (k * 68)).block, (ad.add (k * 68)).off + 67, none⟩ = some (.bool (redE x)) from ⟨(HEF.out.below hV).sl, (HEF.out.below hV).py, (HEF.out.below hV).r⟩)
  have HEND := Aside0.mk (fun V (hV : Below w.heap.size w V) => Evt.rget_c V B cb (payE x) (Kd.C_below hC.r hV) hC.hc (by omega) hE.u)
  have HCLO := Aside0.mk (fun V (hV : Below w.heap.size w V) => Lo.copy_c B cb (payE x) V (Kd.C_below hC.r hV) hC.hc (by omega))
  unfold Makes at HCLO
  unfold Evt.GetQ at HEND
  obtain ⟨sl, hsl⟩ : ∃ t, saltE x = t := ⟨_, rfl⟩
  obtain ⟨rd, hrd⟩ : ∃ t, redE x = t := ⟨_, rfl⟩
  obtain ⟨py, hpy⟩ : ∃ t, payE x = t := ⟨_, rfl⟩
  rw [hsl] at HALL HE
  rw [hrd] at HALL HE
  rw [hpy] at HALL HE HEND HCLO
  have p0 : (0 : Int) ≤ (k : Int) := by omega
  have p1 : (k : Int) < (m : Int) := by omega
  have p2 : (k : Int) ≤ 1000000 := by omega
  have d0 : decide ((k : Int) < 0) = false := decide_eq_false (by omega)
  have d1 : decide ((m : Int) ≤ (k : Int)) = false := decide_eq_false h1
  have d2 : decide (m ≤ k) = false := decide_eq_false (by omega)
  obtain ⟨a1, a2, a3⟩ := HALL.out _ HB.out
  clear hl hm hu hs hr h0 h1 hkl hat hC hE hpl hx hsl hrd hpy
  go_enter Try.func31, Try.ntmps31
  go_wp2_with (fail)
  clear a1 a2 a3 z0 u0 z1 u1 z2 u2 z3 u3
  refine (HEND.out _ HB.out).mono ?_
  rintro e w2 ⟨rfl, hb⟩
  have HB2 := Aside0.mk (below_step HB.out hb)
  have H2 := Aside0.mk (H0.out.below hb)
  clear hb
  rw [ended_eq] at HE
  cases heo : getE py with
  | none =>
    rw [heo] at HE
    dsimp only at HE
    have HE := Aside0.mk (show makeT l (k : Int) = (zC, 13) from by rw [HE.out]; cases rd <;> rfl)
    obtain ⟨ek, et, ea, eb, hq⟩ : ∃ a b c d, ((none : Option Evn).getD zEv) = (a, b, c, d) := ⟨_, _, _, _, rfl⟩
    rw [hq, show (if (none : Option Evn).isSome = true then (0 : Int) else 2) = 2 from rfl]
    clear heo hq
    dsimp only
    go_upto_region 4 with (fail)
    have HB3 := Aside0.mk (below_alloc HB2.out (.cells #[.int .i64 ek, .int .i64 et, .string ea, .string eb] 60))
    have H3 := Aside0.mk (H2.out.below (below_alloc (Below.refl _ _) (.cells #[.int .i64 ek, .int .i64 et, .string ea, .string eb] 60)))
    have H6 := Aside0.mk (show Blk (w2.alloc (.cells #[.int .i64 ek, .int .i64 et, .string ea, .string eb] 60)) w2.heap.size 60 #[.int .i64 ek, .int .i64 et, .string ea, .string eb] from blk_new _ _)
    have HN := Aside0.mk (show w.heap.size < w2.heap.size from H2.out.lt)
    obtain ⟨w3, hw_⟩ : ∃ V, w2.alloc (.cells #[.int .i64 ek, .int .i64 et, .string ea, .string eb] 60) = V := ⟨_, rfl⟩
    obtain ⟨g6, hg_⟩ : ∃ V, w2.heap.size = V := ⟨_, rfl⟩
    rw [hw_] at HB3 H3 H6
    rw [hg_] at H6 HN
    rw [hw_, hg_]
    clear hw_ hg_ H2 HB2
    obtain ⟨a1, a2, a3⟩ := HALL.out _ HB3.out
    have z0 := H3.out.cell 0
    have z1 := H3.out.cell 1
    have z2 := H3.out.cell 2
    have z3 := H3.out.cell 3
    simp only [List.getElem?_toArray, List.getElem?_cons_zero, List.getElem?_cons_succ] at z0 z1 z2 z3
    have u0 := blk_frozen H3.out 0
    have u1 := blk_frozen H3.out 1
    have u2 := blk_frozen H3.out 2
    have u3 := blk_frozen H3.out 3
    have x0 := H6.out.cell 0
    have x1 := H6.out.cell 1
    have x2 := H6.out.cell 2
    have x3 := H6.out.cell 3
    simp only [List.getElem?_toArray, List.getElem?_cons_zero, List.getElem?_cons_succ] at x0 x1 x2 x3
    cases rd with
    | true =>
      go_wp2_with (fail)
      refine bodyPost_ret (results_ct rfl _ _ w.heap.size 53 #[.string ⟨#[]⟩, .int .i64 0, .int .u64 0, .slice none 0 0] (0, 0) _ rfl (set4 H3.out _ _ _ _) Try.underlying53 rfl (by kernel_rfl)) rfl ?_
      rw [HE.out]
      exact ⟨_, rfl, Kd.R_nil _ _ _ _ _, below_set4 HB3.out (Nat.le_refl _) _ _ _ _⟩
    | false =>
      go_wp2_with (fail)
      refine bodyPost_ret (results_ct rfl _ _ w.heap.size 53 #[.string ⟨#[]⟩, .int .i64 0, .int .u64 0, .slice none 0 0] (0, 0) _ rfl (set4 H3.out _ _ _ _) Try.underlying53 rfl (by kernel_rfl)) rfl ?_
      rw [HE.out]
      exact ⟨_, rfl, Kd.R_nil _ _ _ _ _, below_set4 HB3.out (Nat.le_refl _) _ _ _ _⟩
  | some q =>
    obtain ⟨ek, et, ea, eb⟩ := q
    have hnm := may_names (getE_may heo)
    have hsz : ea.size ≤ 4611686018427387904 ∧ eb.size ≤ 4611686018427387904 := ⟨nm_size hnm.1, nm_size hnm.2⟩
    have HRE := Aside0.mk (fun V => rends_c (ek, et, ea, eb) hsz.1 hsz.2 V)
    rw [heo] at HE
    dsimp only at HE
    rw [show (some ((ek, et, ea, eb) : Evn)).getD zEv = (ek, et, ea, eb) from rfl, show (if (some ((ek, et, ea, eb) : Evn)).isSome = true then (0 : Int) else 2) = 0 from rfl]
    obtain ⟨en, hen⟩ : ∃ t, endsE (ek, et, ea, eb) = t := ⟨_, rfl⟩
    rw [hen] at HE HRE
    clear heo hnm hsz hen
    dsimp only
    go_upto_region 4 with (fail)
    have HB3 := Aside0.mk (below_alloc HB2.out (.cells #[.int .i64 ek, .int .i64 et, .string ea, .string eb] 60))
    have H3 := Aside0.mk (H2.out.below (below_alloc (Below.refl _ _) (.cells #[.int .i64 ek, .int .i64 et, .string ea, .string eb] 60)))
    have H6 := Aside0.mk (show Blk (w2.alloc (.cells #[.int .i64 ek, .int .i64 et, .string ea, .string eb] 60)) w2.heap.size 60 #[.int .i64 ek, .int .i64 et, .string ea, .string eb] from blk_new _ _)
    have HN := Aside0.mk (show w.heap.size < w2.heap.size from H2.out.lt)
    obtain ⟨w3, hw_⟩ : ∃ V, w2.alloc (.cells #[.int .i64 ek, .int .i64 et, .string ea, .string eb] 60) = V := ⟨_, rfl⟩
    obtain ⟨g6, hg_⟩ : ∃ V, w2.heap.size = V := ⟨_, rfl⟩
    rw [hw_] at HB3 H3 H6
    rw [hg_] at H6 HN
    rw [hw_, hg_]
    clear hw_ hg_ H2 HB2
    obtain ⟨a1, a2, a3⟩ := HALL.out _ HB3.out
    have z0 := H3.out.cell 0
    have z1 := H3.out.cell 1
    have z2 := H3.out.cell 2
    have z3 := H3.out.cell 3
    simp only [List.getElem?_toArray, List.getElem?_cons_zero, List.getElem?_cons_succ] at z0 z1 z2 z3
    have u0 := blk_frozen H3.out 0
    have u1 := blk_frozen H3.out 1
    have u2 := blk_frozen H3.out 2
    have u3 := blk_frozen H3.out 3
    have x0 := H6.out.cell 0
    have x1 := H6.out.cell 1
    have x2 := H6.out.cell 2
    have x3 := H6.out.cell 3
    simp only [List.getElem?_toArray, List.getElem?_cons_zero, List.getElem?_cons_succ] at x0 x1 x2 x3
    cases rd with
    | true =>
      rw [if_pos rfl] at HE
      go_wp2_with (fail)
      refine bodyPost_ret (results_ct rfl _ _ w.heap.size 53 #[.string ⟨#[]⟩, .int .i64 0, .int .u64 0, .slice none 0 0] (0, 0) _ rfl (set4 H3.out _ _ _ _) Try.underlying53 rfl (by kernel_rfl)) rfl ?_
      rw [HE.out]
      exact ⟨_, rfl, Kd.R_nil _ _ _ _ _, below_set4 HB3.out (Nat.le_refl _) _ _ _ _⟩
    | false =>
      rw [if_neg Bool.false_ne_true] at HE
      go_wp2_with (fail)
      clear a1 a2 a3 z0 u0 x0 z1 u1 x1 z2 u2 x2 z3 u3 x3
      refine (HRE.out _).mono ?_
      rintro e w4 ⟨rfl, hb⟩
      have HB4 := Aside0.mk (below_step HB3.out hb)
      have H4 := Aside0.mk (H3.out.below hb)
      have H64 := Aside0.mk (H6.out.below hb)
      clear hb
      obtain ⟨a1, a2, a3⟩ := HALL.out _ HB4.out
      have z0 := H4.out.cell 0
      have z1 := H4.out.cell 1
      have z2 := H4.out.cell 2
      have z3 := H4.out.cell 3
      simp only [List.getElem?_toArray, List.getElem?_cons_zero, List.getElem?_cons_succ] at z0 z1 z2 z3
      have u0 := blk_frozen H4.out 0
      have u1 := blk_frozen H4.out 1
      have u2 := blk_frozen H4.out 2
      have u3 := blk_frozen H4.out 3
      have x0 := H64.out.cell 0
      have x1 := H64.out.cell 1
      have x2 := H64.out.cell 2
      have x3 := H64.out.cell 3
      simp only [List.getElem?_toArray, List.getElem?_cons_zero, List.getElem?_cons_succ] at x0 x1 x2 x3
      cases en with
      | false =>
        have HE := Aside0.mk (show makeT l (k : Int) = (zC, 13) from HE.out)
        go_wp2_with (fail)
        refine bodyPost_ret (results_ct rfl _ _ w.heap.size 53 #[.string ⟨#[]⟩, .int .i64 0, .int .u64 0, .slice none 0 0] (0, 0) _ rfl (set4 H4.out _ _ _ _) Try.underlying53 rfl (by kernel_rfl)) rfl ?_
        rw [HE.out]
        exact ⟨_, rfl, Kd.R_nil _ _ _ _ _, below_set4 HB4.out (Nat.le_refl _) _ _ _ _⟩
      | true =>
        rw [if_pos rfl] at HE
        by_cases hea : ea.toList = []
        · have e1 : (ea.toList == ([] : List UInt8)) = true := beq_iff_eq.mpr hea
          rw [if_pos hea] at HE
          dsimp only at HE
          go_wp2_with (fail)
          refine bodyPost_ret (results_ct rfl _ _ w.heap.size 53 #[.string ⟨#[]⟩, .int .i64 0, .int .u64 0, .slice none 0 0] (0, 0) _ rfl (set4 H4.out _ _ _ _) Try.underlying53 rfl (by kernel_rfl)) rfl ?_
          rw [HE.out]
          exact ⟨_, rfl, Kd.R_nil _ _ _ _ _, below_set4 HB4.out (Nat.le_refl _) _ _ _ _⟩
        · have e1 : (ea.toList == ([] : List UInt8)) = false := beq_eq_false_iff_ne.mpr hea
          rw [if_neg hea] at HE
          dsimp only at HE
          by_cases h120 : (120 : Int) ≤ (k : Int)
          · have d3 : decide ((120 : Int) ≤ (k : Int)) = true := decide_eq_true h120
            have d4 : decide (120 ≤ k) = true := decide_eq_true (by omega)
            rw [if_pos h120] at HE
            clear h120
            go_wp2_with (fail)
            refine bodyPost_ret (results_ct rfl _ _ w.heap.size 53 #[.string ⟨#[]⟩, .int .i64 0, .int .u64 0, .slice none 0 0] (0, 0) _ rfl (set4 H4.out _ _ _ _) Try.underlying53 rfl (by kernel_rfl)) rfl ?_
            rw [HE.out]
            exact ⟨_, rfl, Kd.R_nil _ _ _ _ _, below_set4 HB4.out (Nat.le_refl _) _ _ _ _⟩
          · have d3 : decide ((120 : Int) ≤ (k : Int)) = false := decide_eq_false h120
            have d4 : decide (120 ≤ k) = false := decide_eq_false (by omega)
            rw [if_neg h120] at HE
            clear h120
            go_upto_region 8 with (fail)
            have HAV := Aside0.mk (fun V (hV : Below w4.heap.size w4 V) => show V.cell? ⟨g6, 2, none⟩ = some (.string ea) ∧ V.cell? ⟨(ad.add (k * 68)).block, (ad.add (k * 68)).off + 65, none⟩ = some (.int .u64 sl) ∧ V.cell? ⟨(ad.add (k * 68)).block, (ad.add (k * 68)).off + 66, none⟩ = some (.slice B py.length cb) from
              ⟨((H64.out.below hV).cell 2).trans rfl, (HALL.out _ (below_step HB4.out hV)).1, (HALL.out _ (below_step HB4.out hV)).2.1⟩)
            clear a1 a2 a3 z0 u0 x0 z1 u1 x1 z2 u2 x2 z3 u3 x3
            refine wp_region_held_drew (S := fun V => V.cell? ⟨g6, 2, none⟩ = some (.string ea) ∧ V.cell? ⟨(ad.add (k * 68)).block, (ad.add (k * 68)).off + 65, none⟩ = some (.int .u64 sl) ∧ V.cell? ⟨(ad.add (k * 68)).block, (ad.add (k * 68)).off + 66, none⟩ = some (.slice B py.length cb)) (by kernel_rfl) (HAV.out _ (below_drew1 (Below.refl _ _))) (fun hHeld => ?_)
            (refine wpAnyH_take (i := 0) (v := ?_) rfl (by kernel_rfl) (by kernel_rfl) (by kernel_rfl) (fun _ _ _ h => h) (Or.inl ⟨by rfl, ?_⟩) (by assumption) ?_; (case' refine_2 => (intro w hSw; go_simp; try with_reducible rfl)); (try simp only [Act.put, List.getElem_toArray, List.getElem_cons_zero, List.getElem_cons_succ, List.setIfInBounds_toArray, List.set_cons_zero, List.set_cons_succ]))
            (refine wpAnyH_take (i := 1) (v := ?_) rfl (by kernel_rfl) (by kernel_rfl) (by kernel_rfl) (fun _ _ _ h => h) (Or.inl ⟨by rfl, ?_⟩) (by assumption) ?_; (case' refine_2 => (intro w hSw; go_simp; try with_reducible rfl)); (try simp only [Act.put, List.getElem_toArray, List.getElem_cons_zero, List.getElem_cons_succ, List.setIfInBounds_toArray, List.set_cons_zero, List.set_cons_succ]))
            (refine wpAnyH_take (i := 2) (v := ?_) rfl (by kernel_rfl) (by kernel_rfl) (by kernel_rfl) (fun _ _ _ h => h) (Or.inl ⟨by rfl, ?_⟩) (by assumption) ?_; (case' refine_2 => (intro w hSw; go_simp; try with_reducible rfl)); (try simp only [Act.put, List.getElem_toArray, List.getElem_cons_zero, List.getElem_cons_succ, List.setIfInBounds_toArray, List.set_cons_zero, List.set_cons_succ]))
            (refine wpAnyH_take (i := 3) (v := ?_) rfl (by kernel_rfl) (by kernel_rfl) (by kernel_rfl) (fun _ _ _ h => h) (Or.inl ⟨by rfl, ?_⟩) (by assumption) ?_; (case' refine_2 => (intro w hSw; go_simp; try with_reducible rfl)); (try simp only [Act.put, List.getElem_toArray, List.getElem_cons_zero, List.getElem_cons_succ, List.setIfInBounds_toArray, List.set_cons_zero, List.set_cons_succ]))
            (refine wpAnyH_take (i := 4) (v := ?_) rfl (by kernel_rfl) (by kernel_rfl) (by kernel_rfl) (fun _ _ _ h => h) (Or.inl ⟨by rfl, ?_⟩) (by assumption) ?_; (case' refine_2 => (intro w hSw; go_simp; try with_reducible rfl)); (try simp only [Act.put, List.getElem_toArray, List.getElem_cons_zero, List.getElem_cons_succ, List.setIfInBounds_toArray, List.set_cons_zero, List.set_cons_succ]))
            (refine wpAnyH_take (i := 5) (v := ?_) rfl (by kernel_rfl) (by kernel_rfl) (by kernel_rfl) (fun _ _ _ h => h) (Or.inl ⟨by rfl, ?_⟩) (by assumption) ?_; (case' refine_2 => (intro w hSw; go_simp; try with_reducible rfl)); (try simp only [Act.put, List.getElem_toArray, List.getElem_cons_zero, List.getElem_cons_succ, List.setIfInBounds_toArray, List.set_cons_zero, List.set_cons_succ]))
            (refine wpAnyH_take (i := 6) (v := ?_) rfl (by kernel_rfl) (by kernel_rfl) (by kernel_rfl) (fun _ _ _ h => h) (Or.inl ⟨by rfl, ?_⟩) (by assumption) ?_; (case' refine_2 => (intro w hSw; go_simp; try with_reducible rfl)); (try simp only [Act.put, List.getElem_toArray, List.getElem_cons_zero, List.getElem_cons_succ, List.setIfInBounds_toArray, List.set_cons_zero, List.set_cons_succ]))
            (refine wpAnyH_take (i := 7) (v := ?_) rfl (by kernel_rfl) (by kernel_rfl) (by kernel_rfl) (fun _ _ _ h => h) (Or.inl ⟨by rfl, ?_⟩) (by assumption) ?_; (case' refine_2 => (intro w hSw; go_simp; try with_reducible rfl)); (try simp only [Act.put, List.getElem_toArray, List.getElem_cons_zero, List.getElem_cons_succ, List.setIfInBounds_toArray, List.set_cons_zero, List.set_cons_succ]))
            (refine wpAnyH_take (i := 8) (v := ?_) rfl (by kernel_rfl) (by kernel_rfl) (by kernel_rfl) (fun _ _ _ h => h) (Or.inl ⟨by rfl, ?_⟩) (by assumption) ?_; (case' refine_2 => (intro w hSw; go_simp; try with_reducible rfl)); (try simp only [Act.put, List.getElem_toArray, List.getElem_cons_zero, List.getElem_cons_succ, List.setIfInBounds_toArray, List.set_cons_zero, List.set_cons_succ]))
            (refine wpAnyH_take (i := 9) (v := ?_) rfl (by kernel_rfl) (by kernel_rfl) (by kernel_rfl) (fun _ _ _ h => h) (Or.inl ⟨by rfl, ?_⟩) (by assumption) ?_; (case' refine_2 => (intro w hSw; go_simp; try with_reducible rfl)); (try simp only [Act.put, List.getElem_toArray, List.getElem_cons_zero, List.getElem_cons_succ, List.setIfInBounds_toArray, List.set_cons_zero, List.set_cons_succ]))
            (refine wpAnyH_take (i := 10) (v := ?_) rfl (by kernel_rfl) (by kernel_rfl) (by kernel_rfl) (fun _ _ _ h => h) (Or.inl ⟨by rfl, ?_⟩) (by assumption) ?_; (case' refine_2 => (intro w hSw; go_simp; try with_reducible rfl)); (try simp only [Act.put, List.getElem_toArray, List.getElem_cons_zero, List.getElem_cons_succ, List.setIfInBounds_toArray, List.set_cons_zero, List.set_cons_succ]))
            (refine wpAnyH_take (i := 11) (v := ?_) rfl (by kernel_rfl) (by kernel_rfl) (by kernel_rfl) (fun _ _ _ h => h) (Or.inl ⟨by rfl, ?_⟩) (by assumption) ?_; (case' refine_2 => (intro w hSw; go_simp; try with_reducible rfl)); (try simp only [Act.put, List.getElem_toArray, List.getElem_cons_zero, List.getElem_cons_succ, List.setIfInBounds_toArray, List.set_cons_zero, List.set_cons_succ]))
            (refine wpAnyH_take (i := 12) (v := ?_) rfl (by kernel_rfl) (by kernel_rfl) (by kernel_rfl) (fun _ _ _ h => h) (Or.inl ⟨by rfl, ?_⟩) (by assumption) ?_; (case' refine_2 => (intro w hSw; go_simp; try with_reducible rfl)); (try simp only [Act.put, List.getElem_toArray, List.getElem_cons_zero, List.getElem_cons_succ, List.setIfInBounds_toArray, List.set_cons_zero, List.set_cons_succ]))
            (refine wpAnyH_ready (rs := [13]) (by kernel_rfl) (by simp) (AllReadyH.cons rfl (fun K hK => ?_) AllReadyH.nil); go_simp)
            refine (HCLO.out _ (below_drew1 HB4.out)).mono ?_
            rintro e w9 ⟨v, rfl, ho, hb⟩
            obtain ⟨A9, c9, rfl⟩ := Kd.R_slice ho
            have hb2 := below_drew_of hb
            have HB9 := Aside0.mk (below_step HB4.out hb2)
            have H9 := Aside0.mk (H4.out.below hb2)
            have HO9 := Aside0.mk (show Kd.R (Kd.int .u8) 5 w9 w.heap.size (fun k => k ≠ w.heap.size) (.slice A9 py.length c9) py from Kd.R_lower (Kd.R_mono (Kd.R_bound ho) (fun k hk => by have h1 := hk.2.1; have h2 := (below_drew1 HB4.out).size; have h3 := H4.out.lt; have h4 : w4.drew.heap.size = w4.heap.size := rfl; omega)) (below_drew1 HB4.out).size)
            clear ho hb
            (refine Shut.out hK _ _ (HAV.out _ hb2) (fun hHeld => ?_); clear hK K; (try simp only [Act.put, List.getElem_toArray, List.getElem_cons_zero, List.getElem_cons_succ, List.setIfInBounds_toArray, List.set_cons_zero, List.set_cons_succ]))
            clear hb2
            (refine wpAnyH_take (i := 14) (v := ?_) rfl (by kernel_rfl) (by kernel_rfl) (by kernel_rfl) (fun _ _ _ h => h) (Or.inl ⟨by rfl, ?_⟩) (by assumption) ?_; (case' refine_2 => (intro w hSw; go_simp; try with_reducible rfl)); (try simp only [Act.put, List.getElem_toArray, List.getElem_cons_zero, List.getElem_cons_succ, List.setIfInBounds_toArray, List.set_cons_zero, List.set_cons_succ]))
            refine wpAnyH_ready (rs := [15]) (by kernel_rfl) (by simp) (AllReadyH.cons rfl (fun K hK => ?_) AllReadyH.nil)
            rw [if_pos (by rfl)]
            refine wp_store_row 53 (.tmp 4) (.tmp 63) rfl w.heap.size #[.string ea, .int .i64 k, .int .u64 sl, .slice A9 py.length c9] rfl rfl 53 #[.string ⟨#[]⟩, .int .i64 0, .int .u64 0, .slice none 0 0] H9.out info_crtS rfl (by simp [Value.oneCell']) ?_
            have hg := grown_setRow w9 w.heap.size #[.string ea, .int .i64 k, .int .u64 sl, .slice A9 py.length c9]
            have HSR := Aside0.mk (setRow_heap w9 w.heap.size #[.string ⟨#[]⟩, .int .i64 0, .int .u64 0, .slice none 0 0] #[.string ea, .int .i64 k, .int .u64 sl, .slice A9 py.length c9] _ _ H9.out)
            have HBa := Aside0.mk (below_setRow HB9.out (Nat.le_refl _) #[.string ea, .int .i64 k, .int .u64 sl, .slice A9 py.length c9])
            have HOa := Aside0.mk (Kd.R_grown HO9.out hg (fun k hk e => hk (by injection e)))
            have HSa := Aside0.mk (show (w9.setRow w.heap.size #[.string ea, .int .i64 k, .int .u64 sl, .slice A9 py.length c9]).cell? ⟨g6, 2, none⟩ = some (.string ea) ∧ (w9.setRow w.heap.size #[.string ea, .int .i64 k, .int .u64 sl, .slice A9 py.length c9]).cell? ⟨(ad.add (k * 68)).block, (ad.add (k * 68)).off + 65, none⟩ = some (.int .u64 sl) ∧ (w9.setRow w.heap.size #[.string ea, .int .i64 k, .int .u64 sl, .slice A9 py.length c9]).cell? ⟨(ad.add (k * 68)).block, (ad.add (k * 68)).off + 66, none⟩ = some (.slice B py.length cb) from
              ⟨(World.grownBy.cell_far hg _ (World.block_lt_of_cell? _ _ hHeld.1) (fun e => by injection e with e; have e : g6 = w.heap.size := e; have := HN.out; omega)).trans hHeld.1, (HALL.out _ HBa.out).1, (HALL.out _ HBa.out).2.1⟩)
            obtain ⟨wa, hw_⟩ : ∃ V, w9.setRow w.heap.size #[.string ea, .int .i64 k, .int .u64 sl, .slice A9 py.length c9] = V := ⟨_, rfl⟩
            rw [hw_] at HSR HBa HOa HSa
            rw [hw_]
            clear hw_ hg
            (refine Shut.out hK _ _ HSa.out (fun hHeld => ?_); clear hK K; (try simp only [Act.put, List.getElem_toArray, List.getElem_cons_zero, List.getElem_cons_succ, List.setIfInBounds_toArray, List.set_cons_zero, List.set_cons_succ]))
            (refine wpAnyH_take (i := 16) (v := ?_) rfl (by kernel_rfl) (by kernel_rfl) (by kernel_rfl) (fun _ _ _ h => h) (Or.inl ⟨by rfl, ?_⟩) (by assumption) ?_; (case' refine_2 => (intro w hSw; go_simp; try with_reducible rfl)); (try simp only [Act.put, List.getElem_toArray, List.getElem_cons_zero, List.getElem_cons_succ, List.setIfInBounds_toArray, List.set_cons_zero, List.set_cons_succ]))
            refine wpAnyH_done (by kernel_rfl) ?_ _
            go_wp2_with (fail)
            refine bodyPost_ret (results_ct rfl _ _ w.heap.size 53 #[.string ea, .int .i64 k, .int .u64 sl, .slice A9 py.length c9] (0, 0) _ rfl HSR.out Try.underlying53 rfl (by kernel_rfl)) rfl ?_
            rw [HE.out]
            exact ⟨_, rfl, Kd.R_mono HOa.out (fun _ _ => trivial), HBa.out⟩
end Go.Proofs.Ytfpkgdenohcglaa.Crt
/- cert.Check and the document's Check walked (printed by gen_crtcheck.py). -/
namespace Go.Proofs.Ytfpkgdenohcglaa.Crt
set_option linter.unusedVariables false
set_option linter.unusedSimpArgs false
open Go.RowKit Go.Proofs.Ytfpkgdenohcglaa.Base Go.Proofs.Ytfpkgdenohcglaa.TlvPlain Go.Proofs.Ytfpkgdenohcglaa.Lo Go.Proofs.Ytfpkgdenohcglaa.RdPlain Go.Proofs.Ytfpkgdenohcglaa.Aid Go.Proofs.Ytfpkgdenohcglaa.ShaPlain Go.Proofs.Ytfpkgdenohcglaa.Sha Go.Proofs.Ytfpkgdenohcglaa.Com Go.Proofs.Ytfpkgdenohcglaa.Chn Go.Proofs.Ytfpkgdenohcglaa.Evt Go.Proofs.YtfpkgdenohcglaaW.PrintWords Go.Proofs.YtfpkgdenohcglaaW.PrintLast Go.Proofs.YtfpkgdenohcglaaW.PrintMore
attribute [local irreducible] shaB
structure CerU (c : Cer) : Prop where
  s0 : 0 ≤ c.2.2.1
  s1 : c.2.2.1 ≤ 18446744073709551615
  u : U8 c.2.2.2
  l : c.2.2.2.length ≤ 100000
theorem checkT_no {c : Cer} {l : List Ent} (h : mayC c = false) : checkT c l = false := by unfold checkT; rw [h, Bool.false_and]
theorem checkT_out {c : Cer} {l : List Ent} (h : ¬ c.2.1 < (l.length : Int)) : checkT c l = false := by unfold checkT; rw [decide_eq_false h, Bool.false_and, Bool.and_false]
theorem checkT_in {c : Cer} {l : List Ent} {k : Nat} (h : mayC c = true) (hk : k < l.length) (hc : c.2.1 = (k : Int)) : checkT c l = decide (comE l[k] = comH c.2.2.1 c.2.2.2) := by
  unfold checkT
  rw [h, Bool.true_and, hc, decide_eq_true (show (k : Int) < (l.length : Int) by omega), Bool.true_and, Int.toNat_natCast, List.getElem?_eq_getElem hk]
theorem may_seq {c : Cer} (h : mayC c = true) : 0 ≤ c.2.1 ∧ c.2.1 < 120 := by
  unfold mayC at h
  simp only [Bool.and_eq_true, decide_eq_true_eq] at h
  exact h.2
set_option maxHeartbeats 8000000 in
set_option maxRecDepth 100000 in
theorem check_c (c : Cer) (hc : CerU c) (l : List Ent) (m : Nat) (hl : l.length = m) (hm : m ≤ 1000000) (hu : Lu' l) (B : Option Addr) (cb : Nat) (hcb : c.2.2.2.length ≤ cb) (A : Option Addr) (c' : Nat) (w : World) (hr : Re w A l) (hp : Rb w B c.2.2.2) :
    Calls Try.prog 36 #[.agg #[.string c.1, .int .i64 c.2.1, .int .u64 c.2.2.1, .slice B c.2.2.2.length cb], .slice A m c'] w (RetB w (checkT c l)) := by
  unfold RetB
  have HMAY := Aside0.mk (fun V (hV : Below w.heap.size w V) => may_c c V B cb (Kd.C_below hp hV) hcb (by have := hc.l; omega) hc.u)
  have HCO := Aside0.mk (fun V (hV : Below w.heap.size w V) => fun (d : Sm) (hd : d.length = 32) => chk_c d hd c.2.2.1 hc.s0 hc.s1 B cb c.2.2.2 V (Kd.C_below hp hV) hcb hc.u hc.l)
  rw [← comH_eq] at HCO
  have HNO := Aside0.mk (fun h => checkT_no (c := c) (l := l) h)
  have HOUT := Aside0.mk (fun h => checkT_out (c := c) (l := l) h)
  have HIN := Aside0.mk (fun (k : Nat) hm hk h => checkT_in (c := c) (l := l) (k := k) hm hk h)
  have HSQ := Aside0.mk (fun h => may_seq (c := c) h)
  have HF := Aside0.mk (And.intro hl (And.intro hm hu))
  have HRE := Aside0.mk hr
  obtain ⟨rc, sq, sl, py⟩ := c
  dsimp only at HMAY HCO HNO HOUT HIN HSQ ⊢
  obtain ⟨n, hn⟩ : ∃ t, py.length = t := ⟨_, rfl⟩
  rw [hn] at HMAY HCO
  rw [hn]
  obtain ⟨mb, hmb⟩ : ∃ t, mayC (rc, sq, sl, py) = t := ⟨_, rfl⟩
  rw [hmb] at HMAY HNO HIN HSQ
  obtain ⟨H, hH⟩ : ∃ t, comH sl py = t := ⟨_, rfl⟩
  rw [hH] at HCO HIN
  have HHL := Aside0.mk (show H.length = 32 by rw [← hH]; exact comH_len _ _)
  have HB1 := Aside0.mk (below_alloc (Below.refl w.heap.size w) (.cells #[.string rc, .int .i64 sq, .int .u64 sl, .slice B n cb] 53))
  have HK0 := Aside0.mk (show Blk (w.alloc (.cells #[.string rc, .int .i64 sq, .int .u64 sl, .slice B n cb] 53)) w.heap.size 53 #[.string rc, .int .i64 sq, .int .u64 sl, .slice B n cb] from blk_new _ _)
  have hu53 := Try.underlying53
  have hu24 := Try.underlying23
  clear hc hl hm hu hcb hr hp hn hmb hH
  go_enter Try.func36, Try.ntmps36
  go_upto_region 1 with (fail)
  obtain ⟨W, hW⟩ : ∃ V, w.alloc (.cells #[.string rc, .int .i64 sq, .int .u64 sl, .slice B n cb] 53) = V := ⟨_, rfl⟩
  rw [hW] at HB1 HK0
  rw [hW]
  clear hW
  have HAV := Aside0.mk (fun V (hV : Below W.heap.size W V) => show V.cell? ⟨w.heap.size, 0, none⟩ = some (.string rc) ∧ V.cell? ⟨w.heap.size, 1, none⟩ = some (.int .i64 sq) ∧ V.cell? ⟨w.heap.size, 2, none⟩ = some (.int .u64 sl) ∧ V.cell? ⟨w.heap.size, 3, none⟩ = some (.slice B n cb) from ⟨((HK0.out.below hV).cell 0).trans rfl, ((HK0.out.below hV).cell 1).trans rfl, ((HK0.out.below hV).cell 2).trans rfl, ((HK0.out.below hV).cell 3).trans rfl⟩)
  cases mb with
  | false =>
    have HE := Aside0.mk (HNO.out rfl)
    refine wp_region_held_drew (S := fun V => V.cell? ⟨w.heap.size, 0, none⟩ = some (.string rc) ∧ V.cell? ⟨w.heap.size, 1, none⟩ = some (.int .i64 sq) ∧ V.cell? ⟨w.heap.size, 2, none⟩ = some (.int .u64 sl) ∧ V.cell? ⟨w.heap.size, 3, none⟩ = some (.slice B n cb)) (by kernel_rfl) (HAV.out _ (below_drew1 (Below.refl _ _))) (fun hHeld => ?_)
    (refine wpAnyH_take (i := 0) (v := ?_) rfl (by kernel_rfl) (by kernel_rfl) (by kernel_rfl) (fun _ _ _ h => h) (Or.inl ⟨by rfl, ?_⟩) (by assumption) ?_; (case' refine_2 => (intro w hSw; go_simp; try with_reducible rfl)); (try simp only [Act.put, List.getElem_toArray, List.getElem_cons_zero, List.getElem_cons_succ, List.setIfInBounds_toArray, List.set_cons_zero, List.set_cons_succ]))
    (refine wpAnyH_ready (rs := [1]) (by kernel_rfl) (by simp) (AllReadyH.cons rfl (fun K hK => ?_) AllReadyH.nil); go_simp)
    refine (HMAY.out _ (below_drew1 HB1.out)).mono ?_
    rintro e w3 ⟨rfl, hb⟩
    have HB2 := Aside0.mk (below_drew_of hb)
    have HB3 := Aside0.mk (below_step HB1.out HB2.out)
    clear hb
    (refine Shut.out hK _ _ (HAV.out _ HB2.out) (fun hHeld => ?_); clear hK K; (try simp only [Act.put, List.getElem_toArray, List.getElem_cons_zero, List.getElem_cons_succ, List.setIfInBounds_toArray, List.set_cons_zero, List.set_cons_succ]))
    (refine wpAnyH_take (i := 2) (v := ?_) rfl (by kernel_rfl) (by kernel_rfl) (by kernel_rfl) (fun _ _ _ h => h) (Or.inl ⟨by rfl, ?_⟩) (by assumption) ?_; (case' refine_2 => (intro w hSw; go_simp; try with_reducible rfl)); (try simp only [Act.put, List.getElem_toArray, List.getElem_cons_zero, List.getElem_cons_succ, List.setIfInBounds_toArray, List.set_cons_zero, List.set_cons_succ]))
    (refine wpAnyH_take (i := 3) (v := undef) rfl (by kernel_rfl) (by kernel_rfl) (by kernel_rfl) (fun _ _ _ h => h) (Or.inr ⟨by rfl, rfl⟩) (by assumption) ?_; (try simp only [Act.put, List.getElem_toArray, List.getElem_cons_zero, List.getElem_cons_succ, List.setIfInBounds_toArray, List.set_cons_zero, List.set_cons_succ]))
    (refine wpAnyH_take (i := 4) (v := undef) rfl (by kernel_rfl) (by kernel_rfl) (by kernel_rfl) (fun _ _ _ h => h) (Or.inr ⟨by rfl, rfl⟩) (by assumption) ?_; (try simp only [Act.put, List.getElem_toArray, List.getElem_cons_zero, List.getElem_cons_succ, List.setIfInBounds_toArray, List.set_cons_zero, List.set_cons_succ]))
    (refine wpAnyH_take (i := 5) (v := undef) rfl (by kernel_rfl) (by kernel_rfl) (by kernel_rfl) (fun _ _ _ h => h) (Or.inr ⟨by rfl, rfl⟩) (by assumption) ?_; (try simp only [Act.put, List.getElem_toArray, List.getElem_cons_zero, List.getElem_cons_succ, List.setIfInBounds_toArray, List.set_cons_zero, List.set_cons_succ]))
    (refine wpAnyH_take (i := 6) (v := undef) rfl (by kernel_rfl) (by kernel_rfl) (by kernel_rfl) (fun _ _ _ h => h) (Or.inr ⟨by rfl, rfl⟩) (by assumption) ?_; (try simp only [Act.put, List.getElem_toArray, List.getElem_cons_zero, List.getElem_cons_succ, List.setIfInBounds_toArray, List.set_cons_zero, List.set_cons_succ]))
    (refine wpAnyH_take (i := 7) (v := undef) rfl (by kernel_rfl) (by kernel_rfl) (by kernel_rfl) (fun _ _ _ h => h) (Or.inr ⟨by rfl, rfl⟩) (by assumption) ?_; (try simp only [Act.put, List.getElem_toArray, List.getElem_cons_zero, List.getElem_cons_succ, List.setIfInBounds_toArray, List.set_cons_zero, List.set_cons_succ]))
    (refine wpAnyH_take (i := 8) (v := ?_) rfl (by kernel_rfl) (by kernel_rfl) (by kernel_rfl) (fun _ _ _ h => h) (Or.inl ⟨by rfl, ?_⟩) (by assumption) ?_; (case' refine_2 => (intro w hSw; go_simp; try with_reducible rfl)); (try simp only [Act.put, List.getElem_toArray, List.getElem_cons_zero, List.getElem_cons_succ, List.setIfInBounds_toArray, List.set_cons_zero, List.set_cons_succ]))
    (refine wpAnyH_take (i := 9) (v := ?_) rfl (by kernel_rfl) (by kernel_rfl) (by kernel_rfl) (fun _ _ _ h => h) (Or.inl ⟨by rfl, ?_⟩) (by assumption) ?_; (case' refine_2 => (intro w hSw; go_simp; try with_reducible rfl)); (try simp only [Act.put, List.getElem_toArray, List.getElem_cons_zero, List.getElem_cons_succ, List.setIfInBounds_toArray, List.set_cons_zero, List.set_cons_succ]))
    (refine wpAnyH_take (i := 10) (v := undef) rfl (by kernel_rfl) (by kernel_rfl) (by kernel_rfl) (fun _ _ _ h => h) (Or.inr ⟨by rfl, rfl⟩) (by assumption) ?_; (try simp only [Act.put, List.getElem_toArray, List.getElem_cons_zero, List.getElem_cons_succ, List.setIfInBounds_toArray, List.set_cons_zero, List.set_cons_succ]))
    (refine wpAnyH_take (i := 11) (v := undef) rfl (by kernel_rfl) (by kernel_rfl) (by kernel_rfl) (fun _ _ _ h => h) (Or.inr ⟨by rfl, rfl⟩) (by assumption) ?_; (try simp only [Act.put, List.getElem_toArray, List.getElem_cons_zero, List.getElem_cons_succ, List.setIfInBounds_toArray, List.set_cons_zero, List.set_cons_succ]))
    (refine wpAnyH_take (i := 12) (v := undef) rfl (by kernel_rfl) (by kernel_rfl) (by kernel_rfl) (fun _ _ _ h => h) (Or.inr ⟨by rfl, rfl⟩) (by assumption) ?_; (try simp only [Act.put, List.getElem_toArray, List.getElem_cons_zero, List.getElem_cons_succ, List.setIfInBounds_toArray, List.set_cons_zero, List.set_cons_succ]))
    (refine wpAnyH_take (i := 13) (v := undef) rfl (by kernel_rfl) (by kernel_rfl) (by kernel_rfl) (fun _ _ _ h => h) (Or.inr ⟨by rfl, rfl⟩) (by assumption) ?_; (try simp only [Act.put, List.getElem_toArray, List.getElem_cons_zero, List.getElem_cons_succ, List.setIfInBounds_toArray, List.set_cons_zero, List.set_cons_succ]))
    (refine wpAnyH_take (i := 14) (v := undef) rfl (by kernel_rfl) (by kernel_rfl) (by kernel_rfl) (fun _ _ _ h => h) (Or.inr ⟨by rfl, rfl⟩) (by assumption) ?_; (try simp only [Act.put, List.getElem_toArray, List.getElem_cons_zero, List.getElem_cons_succ, List.setIfInBounds_toArray, List.set_cons_zero, List.set_cons_succ]))
    (refine wpAnyH_take (i := 15) (v := undef) rfl (by kernel_rfl) (by kernel_rfl) (by kernel_rfl) (fun _ _ _ h => h) (Or.inr ⟨by rfl, rfl⟩) (by assumption) ?_; (try simp only [Act.put, List.getElem_toArray, List.getElem_cons_zero, List.getElem_cons_succ, List.setIfInBounds_toArray, List.set_cons_zero, List.set_cons_succ]))
    (refine wpAnyH_take (i := 16) (v := undef) rfl (by kernel_rfl) (by kernel_rfl) (by kernel_rfl) (fun _ _ _ h => h) (Or.inr ⟨by rfl, rfl⟩) (by assumption) ?_; (try simp only [Act.put, List.getElem_toArray, List.getElem_cons_zero, List.getElem_cons_succ, List.setIfInBounds_toArray, List.set_cons_zero, List.set_cons_succ]))
    (refine wpAnyH_take (i := 17) (v := undef) rfl (by kernel_rfl) (by kernel_rfl) (by kernel_rfl) (fun _ _ _ h => h) (Or.inr ⟨by rfl, rfl⟩) (by assumption) ?_; (try simp only [Act.put, List.getElem_toArray, List.getElem_cons_zero, List.getElem_cons_succ, List.setIfInBounds_toArray, List.set_cons_zero, List.set_cons_succ]))
    (refine wpAnyH_take (i := 18) (v := undef) rfl (by kernel_rfl) (by kernel_rfl) (by kernel_rfl) (fun _ _ _ h => h) (Or.inr ⟨by rfl, rfl⟩) (by assumption) ?_; (try simp only [Act.put, List.getElem_toArray, List.getElem_cons_zero, List.getElem_cons_succ, List.setIfInBounds_toArray, List.set_cons_zero, List.set_cons_succ]))
    (refine wpAnyH_take (i := 19) (v := undef) rfl (by kernel_rfl) (by kernel_rfl) (by kernel_rfl) (fun _ _ _ h => h) (Or.inr ⟨by rfl, rfl⟩) (by assumption) ?_; (try simp only [Act.put, List.getElem_toArray, List.getElem_cons_zero, List.getElem_cons_succ, List.setIfInBounds_toArray, List.set_cons_zero, List.set_cons_succ]))
    (refine wpAnyH_take (i := 20) (v := undef) rfl (by kernel_rfl) (by kernel_rfl) (by kernel_rfl) (fun _ _ _ h => h) (Or.inr ⟨by rfl, rfl⟩) (by assumption) ?_; (try simp only [Act.put, List.getElem_toArray, List.getElem_cons_zero, List.getElem_cons_succ, List.setIfInBounds_toArray, List.set_cons_zero, List.set_cons_succ]))
    (refine wpAnyH_take (i := 21) (v := ?_) rfl (by kernel_rfl) (by kernel_rfl) (by kernel_rfl) (fun _ _ _ h => h) (Or.inl ⟨by rfl, ?_⟩) (by assumption) ?_; (case' refine_2 => (intro w hSw; go_simp; try with_reducible rfl)); (try simp only [Act.put, List.getElem_toArray, List.getElem_cons_zero, List.getElem_cons_succ, List.setIfInBounds_toArray, List.set_cons_zero, List.set_cons_succ]))
    (refine wpAnyH_take (i := 22) (v := ?_) rfl (by kernel_rfl) (by kernel_rfl) (by kernel_rfl) (fun _ _ _ h => h) (Or.inl ⟨by rfl, ?_⟩) (by assumption) ?_; (case' refine_2 => (intro w hSw; go_simp; try with_reducible rfl)); (try simp only [Act.put, List.getElem_toArray, List.getElem_cons_zero, List.getElem_cons_succ, List.setIfInBounds_toArray, List.set_cons_zero, List.set_cons_succ]))
    refine wpAnyH_done (by kernel_rfl) ?_ _
    go_wp2_with (fail)
    go_ret
    exact ⟨by rw [HE.out]; first | done | rfl, HB3.out⟩
  | true =>
    obtain ⟨s0, s1⟩ := HSQ.out rfl
    by_cases hlt : sq < (m : Int)
    · obtain ⟨k, rfl⟩ : ∃ k : Nat, (k : Int) = sq := ⟨sq.toNat, by omega⟩
      have hkl : k < l.length := by rw [HF.out.1]; omega
      have HE := Aside0.mk (HIN.out k rfl hkl rfl)
      obtain ⟨ad, P, C, B', cb', rfl, hat, hC⟩ := re_at HRE.out k hkl
      have hE := HF.out.2.2 _ (List.getElem_mem hkl)
      obtain ⟨x, hx⟩ : ∃ x, l[k] = x := ⟨_, rfl⟩
      rw [hx] at hat hC hE HE
      have HEF := Aside0.mk (entF hC.fp.lenC hC.fc.lenC hat)
      have HIC := Aside0.mk hC.fc.blk
      have HALL := Aside0.mk (fun V (hV : Below W.heap.size W V) => show (V.cell? ⟨w.heap.size, 0, none⟩ = some (.string rc) ∧ V.cell? ⟨w.heap.size, 1, none⟩ = some (.int .i64 (k : Int)) ∧ V.cell? ⟨w.heap.size, 2, none⟩ = some (.int .u64 sl) ∧ V.cell? ⟨w.heap.size, 3, none⟩ = some (.slice B n cb)) ∧ AtC V ((ad.add (k * 68)).add 33) C from ⟨HAV.out V hV, (HEF.out.below (below_step HB1.out hV)).fc⟩)
      have p0 : (0 : Int) ≤ (k : Int) := by omega
      have p1 : (k : Int) < (m : Int) := hlt
      have p2 : (k : Int) ≤ 1000000 := by omega
      have d1 : decide ((k : Int) < (m : Int)) = true := decide_eq_true hlt
      have d2 : decide (k < m) = true := decide_eq_true (by omega)
      have HCO := Aside0.mk (fun V (hV : Below w.heap.size w V) => HCO.out V hV (comE x) hE.cl)
      rw [hC.fc.eq, show decide (H = comE x) = decide (comE x = H) from by rw [Bool.eq_iff_iff, decide_eq_true_eq, decide_eq_true_eq]; exact eq_comm] at HCO
      obtain ⟨eb, heb⟩ : ∃ t, decide (comE x = H) = t := ⟨_, rfl⟩
      rw [heb] at HCO HE
      clear heb
      clear hat hC hE hx hkl hlt s0 s1
      refine wp_region_held_drew (S := fun V => (V.cell? ⟨w.heap.size, 0, none⟩ = some (.string rc) ∧ V.cell? ⟨w.heap.size, 1, none⟩ = some (.int .i64 (k : Int)) ∧ V.cell? ⟨w.heap.size, 2, none⟩ = some (.int .u64 sl) ∧ V.cell? ⟨w.heap.size, 3, none⟩ = some (.slice B n cb)) ∧ AtC V ((ad.add (k * 68)).add 33) C) (by kernel_rfl) (HALL.out _ (below_drew1 (Below.refl _ _))) (fun hHeld => ?_)
      (refine wpAnyH_take (i := 0) (v := ?_) rfl (by kernel_rfl) (by kernel_rfl) (by kernel_rfl) (fun _ _ _ h => h) (Or.inl ⟨by rfl, ?_⟩) (by assumption) ?_; (case' refine_2 => (intro w hSw; go_simp; try with_reducible rfl)); (try simp only [Act.put, List.getElem_toArray, List.getElem_cons_zero, List.getElem_cons_succ, List.setIfInBounds_toArray, List.set_cons_zero, List.set_cons_succ]))
      (refine wpAnyH_ready (rs := [1]) (by kernel_rfl) (by simp) (AllReadyH.cons rfl (fun K hK => ?_) AllReadyH.nil); go_simp)
      refine (HMAY.out _ (below_drew1 HB1.out)).mono ?_
      rintro e w3 ⟨rfl, hb⟩
      have HB2 := Aside0.mk (below_drew_of hb)
      have HB3 := Aside0.mk (below_step HB1.out HB2.out)
      clear hb
      (refine Shut.out hK _ _ (HALL.out _ HB2.out) (fun hHeld => ?_); clear hK K; (try simp only [Act.put, List.getElem_toArray, List.getElem_cons_zero, List.getElem_cons_succ, List.setIfInBounds_toArray, List.set_cons_zero, List.set_cons_succ]))
      (refine wpAnyH_take (i := 2) (v := ?_) rfl (by kernel_rfl) (by kernel_rfl) (by kernel_rfl) (fun _ _ _ h => h) (Or.inl ⟨by rfl, ?_⟩) (by assumption) ?_; (case' refine_2 => (intro w hSw; go_simp; try with_reducible rfl)); (try simp only [Act.put, List.getElem_toArray, List.getElem_cons_zero, List.getElem_cons_succ, List.setIfInBounds_toArray, List.set_cons_zero, List.set_cons_succ]))
      (refine wpAnyH_take (i := 3) (v := ?_) rfl (by kernel_rfl) (by kernel_rfl) (by kernel_rfl) (fun _ _ _ h => h) (Or.inl ⟨by rfl, ?_⟩) (by assumption) ?_; (case' refine_2 => (intro w hSw; go_simp; try with_reducible rfl)); (try simp only [Act.put, List.getElem_toArray, List.getElem_cons_zero, List.getElem_cons_succ, List.setIfInBounds_toArray, List.set_cons_zero, List.set_cons_succ]))
      (refine wpAnyH_take (i := 4) (v := ?_) rfl (by kernel_rfl) (by kernel_rfl) (by kernel_rfl) (fun _ _ _ h => h) (Or.inl ⟨by rfl, ?_⟩) (by assumption) ?_; (case' refine_2 => (intro w hSw; go_simp; try with_reducible rfl)); (try simp only [Act.put, List.getElem_toArray, List.getElem_cons_zero, List.getElem_cons_succ, List.setIfInBounds_toArray, List.set_cons_zero, List.set_cons_succ]))
      (refine wpAnyH_take (i := 5) (v := ?_) rfl (by kernel_rfl) (by kernel_rfl) (by kernel_rfl) (fun _ _ _ h => h) (Or.inl ⟨by rfl, ?_⟩) (by assumption) ?_; (case' refine_2 => (intro w hSw; go_simp; try with_reducible rfl)); (try simp only [Act.put, List.getElem_toArray, List.getElem_cons_zero, List.getElem_cons_succ, List.setIfInBounds_toArray, List.set_cons_zero, List.set_cons_succ]))
      (refine wpAnyH_take (i := 6) (v := ?_) rfl (by kernel_rfl) (by kernel_rfl) (by kernel_rfl) (fun _ _ _ h => h) (Or.inl ⟨by rfl, ?_⟩) (by assumption) ?_; (case' refine_2 => (intro w hSw; go_simp; try with_reducible rfl)); (try simp only [Act.put, List.getElem_toArray, List.getElem_cons_zero, List.getElem_cons_succ, List.setIfInBounds_toArray, List.set_cons_zero, List.set_cons_succ]))
      (refine wpAnyH_take (i := 7) (v := ?_) rfl (by kernel_rfl) (by kernel_rfl) (by kernel_rfl) (fun _ _ _ h => h) (Or.inl ⟨by rfl, ?_⟩) (by assumption) ?_; (case' refine_2 => (intro w hSw; go_simp; try with_reducible rfl)); (try simp only [Act.put, List.getElem_toArray, List.getElem_cons_zero, List.getElem_cons_succ, List.setIfInBounds_toArray, List.set_cons_zero, List.set_cons_succ]))
      (refine wpAnyH_take (i := 8) (v := ?_) rfl (by kernel_rfl) (by kernel_rfl) (by kernel_rfl) (fun _ _ _ h => h) (Or.inl ⟨by rfl, ?_⟩) (by assumption) ?_; (case' refine_2 => (intro w hSw; go_simp; try with_reducible rfl)); (try simp only [Act.put, List.getElem_toArray, List.getElem_cons_zero, List.getElem_cons_succ, List.setIfInBounds_toArray, List.set_cons_zero, List.set_cons_succ]))
      (refine wpAnyH_take (i := 9) (v := ?_) rfl (by kernel_rfl) (by kernel_rfl) (by kernel_rfl) (fun _ _ _ h => h) (Or.inl ⟨by rfl, ?_⟩) (by assumption) ?_; (case' refine_2 => (intro w hSw; go_simp; try with_reducible rfl)); (try simp only [Act.put, List.getElem_toArray, List.getElem_cons_zero, List.getElem_cons_succ, List.setIfInBounds_toArray, List.set_cons_zero, List.set_cons_succ]))
      (refine wpAnyH_take (i := 10) (v := ?_) rfl (by kernel_rfl) (by kernel_rfl) (by kernel_rfl) (fun _ _ _ h => h) (Or.inl ⟨by rfl, ?_⟩) (by assumption) ?_; (case' refine_2 => (intro w hSw; go_simp; try with_reducible rfl)); (try simp only [Act.put, List.getElem_toArray, List.getElem_cons_zero, List.getElem_cons_succ, List.setIfInBounds_toArray, List.set_cons_zero, List.set_cons_succ]))
      (refine wpAnyH_take (i := 11) (v := ?_) rfl (by kernel_rfl) (by kernel_rfl) (by kernel_rfl) (fun _ _ _ h => h) (Or.inl ⟨by rfl, ?_⟩) (by assumption) ?_; (case' refine_2 => (intro w hSw; go_simp; try with_reducible rfl)); (try simp only [Act.put, List.getElem_toArray, List.getElem_cons_zero, List.getElem_cons_succ, List.setIfInBounds_toArray, List.set_cons_zero, List.set_cons_succ]))
      (refine wpAnyH_take (i := 12) (v := ?_) rfl (by kernel_rfl) (by kernel_rfl) (by kernel_rfl) (fun _ _ _ h => h) (Or.inl ⟨by rfl, ?_⟩) (by assumption) ?_; (case' refine_2 => (intro w hSw; go_simp; try with_reducible rfl)); (try simp only [Act.put, List.getElem_toArray, List.getElem_cons_zero, List.getElem_cons_succ, List.setIfInBounds_toArray, List.set_cons_zero, List.set_cons_succ]))
      (refine wpAnyH_take (i := 13) (v := ?_) rfl (by kernel_rfl) (by kernel_rfl) (by kernel_rfl) (fun _ _ _ h => h) (Or.inl ⟨by rfl, ?_⟩) (by assumption) ?_; (case' refine_2 => (intro w hSw; go_simp; try with_reducible rfl)); (try simp only [Act.put, List.getElem_toArray, List.getElem_cons_zero, List.getElem_cons_succ, List.setIfInBounds_toArray, List.set_cons_zero, List.set_cons_succ]))
      (refine wpAnyH_take (i := 14) (v := ?_) rfl (by kernel_rfl) (by kernel_rfl) (by kernel_rfl) (fun _ _ _ h => h) (Or.inl ⟨by rfl, ?_⟩) (by assumption) ?_; (case' refine_2 => (intro w hSw; go_simp; try with_reducible rfl)); (try simp only [Act.put, List.getElem_toArray, List.getElem_cons_zero, List.getElem_cons_succ, List.setIfInBounds_toArray, List.set_cons_zero, List.set_cons_succ]))
      (refine wpAnyH_take (i := 15) rfl (by kernel_rfl) (by kernel_rfl) (by kernel_rfl) (fun _ _ _ h => h) (yieldsIf_load_at (by rfl) _ _ rfl ((ad.add (k * 68)).add 33) rfl C _ (fun _ h => h.2) (by assumption) rfl HIC.out) (by assumption) ?_; (try simp only [Act.put, List.getElem_toArray, List.getElem_cons_zero, List.getElem_cons_succ, List.setIfInBounds_toArray, List.set_cons_zero, List.set_cons_succ]))
      (refine wpAnyH_take (i := 16) (v := ?_) rfl (by kernel_rfl) (by kernel_rfl) (by kernel_rfl) (fun _ _ _ h => h) (Or.inl ⟨by rfl, ?_⟩) (by assumption) ?_; (case' refine_2 => (intro w hSw; go_simp; try with_reducible rfl)); (try simp only [Act.put, List.getElem_toArray, List.getElem_cons_zero, List.getElem_cons_succ, List.setIfInBounds_toArray, List.set_cons_zero, List.set_cons_succ]))
      (refine wpAnyH_take (i := 17) (v := ?_) rfl (by kernel_rfl) (by kernel_rfl) (by kernel_rfl) (fun _ _ _ h => h) (Or.inl ⟨by rfl, ?_⟩) (by assumption) ?_; (case' refine_2 => (intro w hSw; go_simp; try with_reducible rfl)); (try simp only [Act.put, List.getElem_toArray, List.getElem_cons_zero, List.getElem_cons_succ, List.setIfInBounds_toArray, List.set_cons_zero, List.set_cons_succ]))
      (refine wpAnyH_take (i := 18) (v := ?_) rfl (by kernel_rfl) (by kernel_rfl) (by kernel_rfl) (fun _ _ _ h => h) (Or.inl ⟨by rfl, ?_⟩) (by assumption) ?_; (case' refine_2 => (intro w hSw; go_simp; try with_reducible rfl)); (try simp only [Act.put, List.getElem_toArray, List.getElem_cons_zero, List.getElem_cons_succ, List.setIfInBounds_toArray, List.set_cons_zero, List.set_cons_succ]))
      (refine wpAnyH_take (i := 19) (v := ?_) rfl (by kernel_rfl) (by kernel_rfl) (by kernel_rfl) (fun _ _ _ h => h) (Or.inl ⟨by rfl, ?_⟩) (by assumption) ?_; (case' refine_2 => (intro w hSw; go_simp; try with_reducible rfl)); (try simp only [Act.put, List.getElem_toArray, List.getElem_cons_zero, List.getElem_cons_succ, List.setIfInBounds_toArray, List.set_cons_zero, List.set_cons_succ]))
      (refine wpAnyH_ready (rs := [20]) (by kernel_rfl) (by simp) (AllReadyH.cons rfl (fun K hK => ?_) AllReadyH.nil); go_simp)
      refine (HCO.out _ HB3.out).mono ?_
      rintro e w4 ⟨rfl, hb⟩
      have HB4 := Aside0.mk (below_step HB2.out hb)
      have HB5 := Aside0.mk (below_step HB3.out hb)
      clear hb
      (refine Shut.out hK _ _ (HALL.out _ HB4.out) (fun hHeld => ?_); clear hK K; (try simp only [Act.put, List.getElem_toArray, List.getElem_cons_zero, List.getElem_cons_succ, List.setIfInBounds_toArray, List.set_cons_zero, List.set_cons_succ]))
      (refine wpAnyH_take (i := 21) (v := ?_) rfl (by kernel_rfl) (by kernel_rfl) (by kernel_rfl) (fun _ _ _ h => h) (Or.inl ⟨by rfl, ?_⟩) (by assumption) ?_; (case' refine_2 => (intro w hSw; go_simp; try with_reducible rfl)); (try simp only [Act.put, List.getElem_toArray, List.getElem_cons_zero, List.getElem_cons_succ, List.setIfInBounds_toArray, List.set_cons_zero, List.set_cons_succ]))
      (refine wpAnyH_take (i := 22) (v := ?_) rfl (by kernel_rfl) (by kernel_rfl) (by kernel_rfl) (fun _ _ _ h => h) (Or.inl ⟨by rfl, ?_⟩) (by assumption) ?_; (case' refine_2 => (intro w hSw; go_simp; try with_reducible rfl)); (try simp only [Act.put, List.getElem_toArray, List.getElem_cons_zero, List.getElem_cons_succ, List.setIfInBounds_toArray, List.set_cons_zero, List.set_cons_succ]))
      refine wpAnyH_done (by kernel_rfl) ?_ _
      go_wp2_with (fail)
      go_ret
      exact ⟨by rw [HE.out]; first | done | rfl, HB5.out⟩
    · have HE := Aside0.mk (HOUT.out (by rw [HF.out.1]; exact hlt))
      have d1 : decide (sq < (m : Int)) = false := decide_eq_false hlt
      clear hlt s0 s1
      refine wp_region_held_drew (S := fun V => V.cell? ⟨w.heap.size, 0, none⟩ = some (.string rc) ∧ V.cell? ⟨w.heap.size, 1, none⟩ = some (.int .i64 sq) ∧ V.cell? ⟨w.heap.size, 2, none⟩ = some (.int .u64 sl) ∧ V.cell? ⟨w.heap.size, 3, none⟩ = some (.slice B n cb)) (by kernel_rfl) (HAV.out _ (below_drew1 (Below.refl _ _))) (fun hHeld => ?_)
      (refine wpAnyH_take (i := 0) (v := ?_) rfl (by kernel_rfl) (by kernel_rfl) (by kernel_rfl) (fun _ _ _ h => h) (Or.inl ⟨by rfl, ?_⟩) (by assumption) ?_; (case' refine_2 => (intro w hSw; go_simp; try with_reducible rfl)); (try simp only [Act.put, List.getElem_toArray, List.getElem_cons_zero, List.getElem_cons_succ, List.setIfInBounds_toArray, List.set_cons_zero, List.set_cons_succ]))
      (refine wpAnyH_ready (rs := [1]) (by kernel_rfl) (by simp) (AllReadyH.cons rfl (fun K hK => ?_) AllReadyH.nil); go_simp)
      refine (HMAY.out _ (below_drew1 HB1.out)).mono ?_
      rintro e w3 ⟨rfl, hb⟩
      have HB2 := Aside0.mk (below_drew_of hb)
      have HB3 := Aside0.mk (below_step HB1.out HB2.out)
      clear hb
      (refine Shut.out hK _ _ (HAV.out _ HB2.out) (fun hHeld => ?_); clear hK K; (try simp only [Act.put, List.getElem_toArray, List.getElem_cons_zero, List.getElem_cons_succ, List.setIfInBounds_toArray, List.set_cons_zero, List.set_cons_succ]))
      (refine wpAnyH_take (i := 2) (v := ?_) rfl (by kernel_rfl) (by kernel_rfl) (by kernel_rfl) (fun _ _ _ h => h) (Or.inl ⟨by rfl, ?_⟩) (by assumption) ?_; (case' refine_2 => (intro w hSw; go_simp; try with_reducible rfl)); (try simp only [Act.put, List.getElem_toArray, List.getElem_cons_zero, List.getElem_cons_succ, List.setIfInBounds_toArray, List.set_cons_zero, List.set_cons_succ]))
      (refine wpAnyH_take (i := 3) (v := ?_) rfl (by kernel_rfl) (by kernel_rfl) (by kernel_rfl) (fun _ _ _ h => h) (Or.inl ⟨by rfl, ?_⟩) (by assumption) ?_; (case' refine_2 => (intro w hSw; go_simp; try with_reducible rfl)); (try simp only [Act.put, List.getElem_toArray, List.getElem_cons_zero, List.getElem_cons_succ, List.setIfInBounds_toArray, List.set_cons_zero, List.set_cons_succ]))
      (refine wpAnyH_take (i := 4) (v := ?_) rfl (by kernel_rfl) (by kernel_rfl) (by kernel_rfl) (fun _ _ _ h => h) (Or.inl ⟨by rfl, ?_⟩) (by assumption) ?_; (case' refine_2 => (intro w hSw; go_simp; try with_reducible rfl)); (try simp only [Act.put, List.getElem_toArray, List.getElem_cons_zero, List.getElem_cons_succ, List.setIfInBounds_toArray, List.set_cons_zero, List.set_cons_succ]))
      (refine wpAnyH_take (i := 5) (v := ?_) rfl (by kernel_rfl) (by kernel_rfl) (by kernel_rfl) (fun _ _ _ h => h) (Or.inl ⟨by rfl, ?_⟩) (by assumption) ?_; (case' refine_2 => (intro w hSw; go_simp; try with_reducible rfl)); (try simp only [Act.put, List.getElem_toArray, List.getElem_cons_zero, List.getElem_cons_succ, List.setIfInBounds_toArray, List.set_cons_zero, List.set_cons_succ]))
      (refine wpAnyH_take (i := 6) (v := ?_) rfl (by kernel_rfl) (by kernel_rfl) (by kernel_rfl) (fun _ _ _ h => h) (Or.inl ⟨by rfl, ?_⟩) (by assumption) ?_; (case' refine_2 => (intro w hSw; go_simp; try with_reducible rfl)); (try simp only [Act.put, List.getElem_toArray, List.getElem_cons_zero, List.getElem_cons_succ, List.setIfInBounds_toArray, List.set_cons_zero, List.set_cons_succ]))
      (refine wpAnyH_take (i := 7) (v := ?_) rfl (by kernel_rfl) (by kernel_rfl) (by kernel_rfl) (fun _ _ _ h => h) (Or.inl ⟨by rfl, ?_⟩) (by assumption) ?_; (case' refine_2 => (intro w hSw; go_simp; try with_reducible rfl)); (try simp only [Act.put, List.getElem_toArray, List.getElem_cons_zero, List.getElem_cons_succ, List.setIfInBounds_toArray, List.set_cons_zero, List.set_cons_succ]))
      (refine wpAnyH_take (i := 8) (v := ?_) rfl (by kernel_rfl) (by kernel_rfl) (by kernel_rfl) (fun _ _ _ h => h) (Or.inl ⟨by rfl, ?_⟩) (by assumption) ?_; (case' refine_2 => (intro w hSw; go_simp; try with_reducible rfl)); (try simp only [Act.put, List.getElem_toArray, List.getElem_cons_zero, List.getElem_cons_succ, List.setIfInBounds_toArray, List.set_cons_zero, List.set_cons_succ]))
      (refine wpAnyH_take (i := 9) (v := ?_) rfl (by kernel_rfl) (by kernel_rfl) (by kernel_rfl) (fun _ _ _ h => h) (Or.inl ⟨by rfl, ?_⟩) (by assumption) ?_; (case' refine_2 => (intro w hSw; go_simp; try with_reducible rfl)); (try simp only [Act.put, List.getElem_toArray, List.getElem_cons_zero, List.getElem_cons_succ, List.setIfInBounds_toArray, List.set_cons_zero, List.set_cons_succ]))
      (refine wpAnyH_take (i := 10) (v := undef) rfl (by kernel_rfl) (by kernel_rfl) (by kernel_rfl) (fun _ _ _ h => h) (Or.inr ⟨by rfl, rfl⟩) (by assumption) ?_; (try simp only [Act.put, List.getElem_toArray, List.getElem_cons_zero, List.getElem_cons_succ, List.setIfInBounds_toArray, List.set_cons_zero, List.set_cons_succ]))
      (refine wpAnyH_take (i := 11) (v := undef) rfl (by kernel_rfl) (by kernel_rfl) (by kernel_rfl) (fun _ _ _ h => h) (Or.inr ⟨by rfl, rfl⟩) (by assumption) ?_; (try simp only [Act.put, List.getElem_toArray, List.getElem_cons_zero, List.getElem_cons_succ, List.setIfInBounds_toArray, List.set_cons_zero, List.set_cons_succ]))
      (refine wpAnyH_take (i := 12) (v := undef) rfl (by kernel_rfl) (by kernel_rfl) (by kernel_rfl) (fun _ _ _ h => h) (Or.inr ⟨by rfl, rfl⟩) (by assumption) ?_; (try simp only [Act.put, List.getElem_toArray, List.getElem_cons_zero, List.getElem_cons_succ, List.setIfInBounds_toArray, List.set_cons_zero, List.set_cons_succ]))
      (refine wpAnyH_take (i := 13) (v := undef) rfl (by kernel_rfl) (by kernel_rfl) (by kernel_rfl) (fun _ _ _ h => h) (Or.inr ⟨by rfl, rfl⟩) (by assumption) ?_; (try simp only [Act.put, List.getElem_toArray, List.getElem_cons_zero, List.getElem_cons_succ, List.setIfInBounds_toArray, List.set_cons_zero, List.set_cons_succ]))
      (refine wpAnyH_take (i := 14) (v := undef) rfl (by kernel_rfl) (by kernel_rfl) (by kernel_rfl) (fun _ _ _ h => h) (Or.inr ⟨by rfl, rfl⟩) (by assumption) ?_; (try simp only [Act.put, List.getElem_toArray, List.getElem_cons_zero, List.getElem_cons_succ, List.setIfInBounds_toArray, List.set_cons_zero, List.set_cons_succ]))
      (refine wpAnyH_take (i := 15) (v := undef) rfl (by kernel_rfl) (by kernel_rfl) (by kernel_rfl) (fun _ _ _ h => h) (Or.inr ⟨by rfl, rfl⟩) (by assumption) ?_; (try simp only [Act.put, List.getElem_toArray, List.getElem_cons_zero, List.getElem_cons_succ, List.setIfInBounds_toArray, List.set_cons_zero, List.set_cons_succ]))
      (refine wpAnyH_take (i := 16) (v := undef) rfl (by kernel_rfl) (by kernel_rfl) (by kernel_rfl) (fun _ _ _ h => h) (Or.inr ⟨by rfl, rfl⟩) (by assumption) ?_; (try simp only [Act.put, List.getElem_toArray, List.getElem_cons_zero, List.getElem_cons_succ, List.setIfInBounds_toArray, List.set_cons_zero, List.set_cons_succ]))
      (refine wpAnyH_take (i := 17) (v := undef) rfl (by kernel_rfl) (by kernel_rfl) (by kernel_rfl) (fun _ _ _ h => h) (Or.inr ⟨by rfl, rfl⟩) (by assumption) ?_; (try simp only [Act.put, List.getElem_toArray, List.getElem_cons_zero, List.getElem_cons_succ, List.setIfInBounds_toArray, List.set_cons_zero, List.set_cons_succ]))
      (refine wpAnyH_take (i := 18) (v := undef) rfl (by kernel_rfl) (by kernel_rfl) (by kernel_rfl) (fun _ _ _ h => h) (Or.inr ⟨by rfl, rfl⟩) (by assumption) ?_; (try simp only [Act.put, List.getElem_toArray, List.getElem_cons_zero, List.getElem_cons_succ, List.setIfInBounds_toArray, List.set_cons_zero, List.set_cons_succ]))
      (refine wpAnyH_take (i := 19) (v := undef) rfl (by kernel_rfl) (by kernel_rfl) (by kernel_rfl) (fun _ _ _ h => h) (Or.inr ⟨by rfl, rfl⟩) (by assumption) ?_; (try simp only [Act.put, List.getElem_toArray, List.getElem_cons_zero, List.getElem_cons_succ, List.setIfInBounds_toArray, List.set_cons_zero, List.set_cons_succ]))
      (refine wpAnyH_take (i := 20) (v := undef) rfl (by kernel_rfl) (by kernel_rfl) (by kernel_rfl) (fun _ _ _ h => h) (Or.inr ⟨by rfl, rfl⟩) (by assumption) ?_; (try simp only [Act.put, List.getElem_toArray, List.getElem_cons_zero, List.getElem_cons_succ, List.setIfInBounds_toArray, List.set_cons_zero, List.set_cons_succ]))
      (refine wpAnyH_take (i := 21) (v := ?_) rfl (by kernel_rfl) (by kernel_rfl) (by kernel_rfl) (fun _ _ _ h => h) (Or.inl ⟨by rfl, ?_⟩) (by assumption) ?_; (case' refine_2 => (intro w hSw; go_simp; try with_reducible rfl)); (try simp only [Act.put, List.getElem_toArray, List.getElem_cons_zero, List.getElem_cons_succ, List.setIfInBounds_toArray, List.set_cons_zero, List.set_cons_succ]))
      (refine wpAnyH_take (i := 22) (v := ?_) rfl (by kernel_rfl) (by kernel_rfl) (by kernel_rfl) (fun _ _ _ h => h) (Or.inl ⟨by rfl, ?_⟩) (by assumption) ?_; (case' refine_2 => (intro w hSw; go_simp; try with_reducible rfl)); (try simp only [Act.put, List.getElem_toArray, List.getElem_cons_zero, List.getElem_cons_succ, List.setIfInBounds_toArray, List.set_cons_zero, List.set_cons_succ]))
      refine wpAnyH_done (by kernel_rfl) ?_ _
      go_wp2_with (fail)
      go_ret
      exact ⟨by rw [HE.out]; first | done | rfl, HB3.out⟩
set_option maxHeartbeats 8000000 in
set_option maxRecDepth 100000 in
theorem rcheck_c (c : Cer) (hc : CerU c) (l : List Ent) (m : Nat) (hl : l.length = m) (hm : m ≤ 1000000) (hu : Lu' l) (B : Option Addr) (cb : Nat) (hcb : c.2.2.2.length ≤ cb) (A : Option Addr) (c' : Nat) (w : World) (hr : Re w A l) (hp : Rb w B c.2.2.2) :
    Calls Try.prog 37 #[.agg #[.string c.1, .int .i64 c.2.1, .int .u64 c.2.2.1, .slice B c.2.2.2.length cb], .slice A m c'] w (RetB w (checkT c l)) := by
  unfold RetB
  have HMAY := Aside0.mk (fun V (hV : Below w.heap.size w V) => rmay_c c V B cb (Kd.C_below hp hV) hcb (by have := hc.l; omega) hc.u)
  have HCO := Aside0.mk (fun V (hV : Below w.heap.size w V) => rcof_c c.2.2.1 hc.s0 hc.s1 B cb c.2.2.2 V (Kd.C_below hp hV) hcb hc.u hc.l)
  rw [← comH_eq] at HCO
  have HNO := Aside0.mk (fun h => checkT_no (c := c) (l := l) h)
  have HOUT := Aside0.mk (fun h => checkT_out (c := c) (l := l) h)
  have HIN := Aside0.mk (fun (k : Nat) hm hk h => checkT_in (c := c) (l := l) (k := k) hm hk h)
  have HSQ := Aside0.mk (fun h => may_seq (c := c) h)
  have HF := Aside0.mk (And.intro hl (And.intro hm hu))
  have HRE := Aside0.mk hr
  obtain ⟨rc, sq, sl, py⟩ := c
  dsimp only at HMAY HCO HNO HOUT HIN HSQ ⊢
  obtain ⟨n, hn⟩ : ∃ t, py.length = t := ⟨_, rfl⟩
  rw [hn] at HMAY HCO
  rw [hn]
  obtain ⟨mb, hmb⟩ : ∃ t, mayC (rc, sq, sl, py) = t := ⟨_, rfl⟩
  rw [hmb] at HMAY HNO HIN HSQ
  obtain ⟨H, hH⟩ : ∃ t, comH sl py = t := ⟨_, rfl⟩
  rw [hH] at HCO HIN
  have HHL := Aside0.mk (show H.length = 32 by rw [← hH]; exact comH_len _ _)
  have HB1 := Aside0.mk (below_alloc (Below.refl w.heap.size w) (.cells #[.string rc, .int .i64 sq, .int .u64 sl, .slice B n cb] 53))
  have HK0 := Aside0.mk (show Blk (w.alloc (.cells #[.string rc, .int .i64 sq, .int .u64 sl, .slice B n cb] 53)) w.heap.size 53 #[.string rc, .int .i64 sq, .int .u64 sl, .slice B n cb] from blk_new _ _)
  have hu53 := Try.underlying53
  have hu24 := Try.underlying23
  clear hc hl hm hu hcb hr hp hn hmb hH
  go_enter Try.func37, Try.ntmps37
  go_upto_region 1 with (fail)
  obtain ⟨W, hW⟩ : ∃ V, w.alloc (.cells #[.string rc, .int .i64 sq, .int .u64 sl, .slice B n cb] 53) = V := ⟨_, rfl⟩
  rw [hW] at HB1 HK0
  rw [hW]
  clear hW
  have HAV := Aside0.mk (fun V (hV : Below W.heap.size W V) => show V.cell? ⟨w.heap.size, 0, none⟩ = some (.string rc) ∧ V.cell? ⟨w.heap.size, 1, none⟩ = some (.int .i64 sq) ∧ V.cell? ⟨w.heap.size, 2, none⟩ = some (.int .u64 sl) ∧ V.cell? ⟨w.heap.size, 3, none⟩ = some (.slice B n cb) from ⟨((HK0.out.below hV).cell 0).trans rfl, ((HK0.out.below hV).cell 1).trans rfl, ((HK0.out.below hV).cell 2).trans rfl, ((HK0.out.below hV).cell 3).trans rfl⟩)
  cases mb with
  | false =>
    have HE := Aside0.mk (HNO.out rfl)
    refine wp_region_held_drew (S := fun V => V.cell? ⟨w.heap.size, 0, none⟩ = some (.string rc) ∧ V.cell? ⟨w.heap.size, 1, none⟩ = some (.int .i64 sq) ∧ V.cell? ⟨w.heap.size, 2, none⟩ = some (.int .u64 sl) ∧ V.cell? ⟨w.heap.size, 3, none⟩ = some (.slice B n cb)) (by kernel_rfl) (HAV.out _ (below_drew1 (Below.refl _ _))) (fun hHeld => ?_)
    (refine wpAnyH_take (i := 0) (v := ?_) rfl (by kernel_rfl) (by kernel_rfl) (by kernel_rfl) (fun _ _ _ h => h) (Or.inl ⟨by rfl, ?_⟩) (by assumption) ?_; (case' refine_2 => (intro w hSw; go_simp; try with_reducible rfl)); (try simp only [Act.put, List.getElem_toArray, List.getElem_cons_zero, List.getElem_cons_succ, List.setIfInBounds_toArray, List.set_cons_zero, List.set_cons_succ]))
    (refine wpAnyH_ready (rs := [1]) (by kernel_rfl) (by simp) (AllReadyH.cons rfl (fun K hK => ?_) AllReadyH.nil); go_simp)
    refine (HMAY.out _ (below_drew1 HB1.out)).mono ?_
    rintro e w3 ⟨rfl, hb⟩
    have HB2 := Aside0.mk (below_drew_of hb)
    have HB3 := Aside0.mk (below_step HB1.out HB2.out)
    clear hb
    (refine Shut.out hK _ _ (HAV.out _ HB2.out) (fun hHeld => ?_); clear hK K; (try simp only [Act.put, List.getElem_toArray, List.getElem_cons_zero, List.getElem_cons_succ, List.setIfInBounds_toArray, List.set_cons_zero, List.set_cons_succ]))
    (refine wpAnyH_take (i := 2) (v := ?_) rfl (by kernel_rfl) (by kernel_rfl) (by kernel_rfl) (fun _ _ _ h => h) (Or.inl ⟨by rfl, ?_⟩) (by assumption) ?_; (case' refine_2 => (intro w hSw; go_simp; try with_reducible rfl)); (try simp only [Act.put, List.getElem_toArray, List.getElem_cons_zero, List.getElem_cons_succ, List.setIfInBounds_toArray, List.set_cons_zero, List.set_cons_succ]))
    (refine wpAnyH_take (i := 3) (v := undef) rfl (by kernel_rfl) (by kernel_rfl) (by kernel_rfl) (fun _ _ _ h => h) (Or.inr ⟨by rfl, rfl⟩) (by assumption) ?_; (try simp only [Act.put, List.getElem_toArray, List.getElem_cons_zero, List.getElem_cons_succ, List.setIfInBounds_toArray, List.set_cons_zero, List.set_cons_succ]))
    (refine wpAnyH_take (i := 4) (v := undef) rfl (by kernel_rfl) (by kernel_rfl) (by kernel_rfl) (fun _ _ _ h => h) (Or.inr ⟨by rfl, rfl⟩) (by assumption) ?_; (try simp only [Act.put, List.getElem_toArray, List.getElem_cons_zero, List.getElem_cons_succ, List.setIfInBounds_toArray, List.set_cons_zero, List.set_cons_succ]))
    (refine wpAnyH_take (i := 5) (v := undef) rfl (by kernel_rfl) (by kernel_rfl) (by kernel_rfl) (fun _ _ _ h => h) (Or.inr ⟨by rfl, rfl⟩) (by assumption) ?_; (try simp only [Act.put, List.getElem_toArray, List.getElem_cons_zero, List.getElem_cons_succ, List.setIfInBounds_toArray, List.set_cons_zero, List.set_cons_succ]))
    (refine wpAnyH_take (i := 6) (v := undef) rfl (by kernel_rfl) (by kernel_rfl) (by kernel_rfl) (fun _ _ _ h => h) (Or.inr ⟨by rfl, rfl⟩) (by assumption) ?_; (try simp only [Act.put, List.getElem_toArray, List.getElem_cons_zero, List.getElem_cons_succ, List.setIfInBounds_toArray, List.set_cons_zero, List.set_cons_succ]))
    (refine wpAnyH_take (i := 7) (v := undef) rfl (by kernel_rfl) (by kernel_rfl) (by kernel_rfl) (fun _ _ _ h => h) (Or.inr ⟨by rfl, rfl⟩) (by assumption) ?_; (try simp only [Act.put, List.getElem_toArray, List.getElem_cons_zero, List.getElem_cons_succ, List.setIfInBounds_toArray, List.set_cons_zero, List.set_cons_succ]))
    (refine wpAnyH_take (i := 8) (v := ?_) rfl (by kernel_rfl) (by kernel_rfl) (by kernel_rfl) (fun _ _ _ h => h) (Or.inl ⟨by rfl, ?_⟩) (by assumption) ?_; (case' refine_2 => (intro w hSw; go_simp; try with_reducible rfl)); (try simp only [Act.put, List.getElem_toArray, List.getElem_cons_zero, List.getElem_cons_succ, List.setIfInBounds_toArray, List.set_cons_zero, List.set_cons_succ]))
    (refine wpAnyH_take (i := 9) (v := ?_) rfl (by kernel_rfl) (by kernel_rfl) (by kernel_rfl) (fun _ _ _ h => h) (Or.inl ⟨by rfl, ?_⟩) (by assumption) ?_; (case' refine_2 => (intro w hSw; go_simp; try with_reducible rfl)); (try simp only [Act.put, List.getElem_toArray, List.getElem_cons_zero, List.getElem_cons_succ, List.setIfInBounds_toArray, List.set_cons_zero, List.set_cons_succ]))
    (refine wpAnyH_take (i := 10) (v := undef) rfl (by kernel_rfl) (by kernel_rfl) (by kernel_rfl) (fun _ _ _ h => h) (Or.inr ⟨by rfl, rfl⟩) (by assumption) ?_; (try simp only [Act.put, List.getElem_toArray, List.getElem_cons_zero, List.getElem_cons_succ, List.setIfInBounds_toArray, List.set_cons_zero, List.set_cons_succ]))
    (refine wpAnyH_take (i := 11) (v := undef) rfl (by kernel_rfl) (by kernel_rfl) (by kernel_rfl) (fun _ _ _ h => h) (Or.inr ⟨by rfl, rfl⟩) (by assumption) ?_; (try simp only [Act.put, List.getElem_toArray, List.getElem_cons_zero, List.getElem_cons_succ, List.setIfInBounds_toArray, List.set_cons_zero, List.set_cons_succ]))
    (refine wpAnyH_take (i := 12) (v := undef) rfl (by kernel_rfl) (by kernel_rfl) (by kernel_rfl) (fun _ _ _ h => h) (Or.inr ⟨by rfl, rfl⟩) (by assumption) ?_; (try simp only [Act.put, List.getElem_toArray, List.getElem_cons_zero, List.getElem_cons_succ, List.setIfInBounds_toArray, List.set_cons_zero, List.set_cons_succ]))
    (refine wpAnyH_take (i := 13) (v := undef) rfl (by kernel_rfl) (by kernel_rfl) (by kernel_rfl) (fun _ _ _ h => h) (Or.inr ⟨by rfl, rfl⟩) (by assumption) ?_; (try simp only [Act.put, List.getElem_toArray, List.getElem_cons_zero, List.getElem_cons_succ, List.setIfInBounds_toArray, List.set_cons_zero, List.set_cons_succ]))
    (refine wpAnyH_take (i := 14) (v := undef) rfl (by kernel_rfl) (by kernel_rfl) (by kernel_rfl) (fun _ _ _ h => h) (Or.inr ⟨by rfl, rfl⟩) (by assumption) ?_; (try simp only [Act.put, List.getElem_toArray, List.getElem_cons_zero, List.getElem_cons_succ, List.setIfInBounds_toArray, List.set_cons_zero, List.set_cons_succ]))
    (refine wpAnyH_take (i := 15) (v := undef) rfl (by kernel_rfl) (by kernel_rfl) (by kernel_rfl) (fun _ _ _ h => h) (Or.inr ⟨by rfl, rfl⟩) (by assumption) ?_; (try simp only [Act.put, List.getElem_toArray, List.getElem_cons_zero, List.getElem_cons_succ, List.setIfInBounds_toArray, List.set_cons_zero, List.set_cons_succ]))
    (refine wpAnyH_take (i := 16) (v := undef) rfl (by kernel_rfl) (by kernel_rfl) (by kernel_rfl) (fun _ _ _ h => h) (Or.inr ⟨by rfl, rfl⟩) (by assumption) ?_; (try simp only [Act.put, List.getElem_toArray, List.getElem_cons_zero, List.getElem_cons_succ, List.setIfInBounds_toArray, List.set_cons_zero, List.set_cons_succ]))
    (refine wpAnyH_take (i := 17) (v := undef) rfl (by kernel_rfl) (by kernel_rfl) (by kernel_rfl) (fun _ _ _ h => h) (Or.inr ⟨by rfl, rfl⟩) (by assumption) ?_; (try simp only [Act.put, List.getElem_toArray, List.getElem_cons_zero, List.getElem_cons_succ, List.setIfInBounds_toArray, List.set_cons_zero, List.set_cons_succ]))
    (refine wpAnyH_take (i := 18) (v := undef) rfl (by kernel_rfl) (by kernel_rfl) (by kernel_rfl) (fun _ _ _ h => h) (Or.inr ⟨by rfl, rfl⟩) (by assumption) ?_; (try simp only [Act.put, List.getElem_toArray, List.getElem_cons_zero, List.getElem_cons_succ, List.setIfInBounds_toArray, List.set_cons_zero, List.set_cons_succ]))
    (refine wpAnyH_take (i := 19) (v := undef) rfl (by kernel_rfl) (by kernel_rfl) (by kernel_rfl) (fun _ _ _ h => h) (Or.inr ⟨by rfl, rfl⟩) (by assumption) ?_; (try simp only [Act.put, List.getElem_toArray, List.getElem_cons_zero, List.getElem_cons_succ, List.setIfInBounds_toArray, List.set_cons_zero, List.set_cons_succ]))
    (refine wpAnyH_take (i := 20) (v := undef) rfl (by kernel_rfl) (by kernel_rfl) (by kernel_rfl) (fun _ _ _ h => h) (Or.inr ⟨by rfl, rfl⟩) (by assumption) ?_; (try simp only [Act.put, List.getElem_toArray, List.getElem_cons_zero, List.getElem_cons_succ, List.setIfInBounds_toArray, List.set_cons_zero, List.set_cons_succ]))
    (refine wpAnyH_take (i := 21) (v := undef) rfl (by kernel_rfl) (by kernel_rfl) (by kernel_rfl) (fun _ _ _ h => h) (Or.inr ⟨by rfl, rfl⟩) (by assumption) ?_; (try simp only [Act.put, List.getElem_toArray, List.getElem_cons_zero, List.getElem_cons_succ, List.setIfInBounds_toArray, List.set_cons_zero, List.set_cons_succ]))
    (refine wpAnyH_take (i := 22) (v := ?_) rfl (by kernel_rfl) (by kernel_rfl) (by kernel_rfl) (fun _ _ _ h => h) (Or.inl ⟨by rfl, ?_⟩) (by assumption) ?_; (case' refine_2 => (intro w hSw; go_simp; try with_reducible rfl)); (try simp only [Act.put, List.getElem_toArray, List.getElem_cons_zero, List.getElem_cons_succ, List.setIfInBounds_toArray, List.set_cons_zero, List.set_cons_succ]))
    (refine wpAnyH_take (i := 23) (v := ?_) rfl (by kernel_rfl) (by kernel_rfl) (by kernel_rfl) (fun _ _ _ h => h) (Or.inl ⟨by rfl, ?_⟩) (by assumption) ?_; (case' refine_2 => (intro w hSw; go_simp; try with_reducible rfl)); (try simp only [Act.put, List.getElem_toArray, List.getElem_cons_zero, List.getElem_cons_succ, List.setIfInBounds_toArray, List.set_cons_zero, List.set_cons_succ]))
    refine wpAnyH_done (by kernel_rfl) ?_ _
    go_wp2_with (fail)
    go_ret
    exact ⟨by rw [HE.out]; first | done | rfl, HB3.out⟩
  | true =>
    obtain ⟨s0, s1⟩ := HSQ.out rfl
    by_cases hlt : sq < (m : Int)
    · obtain ⟨k, rfl⟩ : ∃ k : Nat, (k : Int) = sq := ⟨sq.toNat, by omega⟩
      have hkl : k < l.length := by rw [HF.out.1]; omega
      have HE := Aside0.mk (HIN.out k rfl hkl rfl)
      obtain ⟨ad, P, C, B', cb', rfl, hat, hC⟩ := re_at HRE.out k hkl
      have hE := HF.out.2.2 _ (List.getElem_mem hkl)
      obtain ⟨x, hx⟩ : ∃ x, l[k] = x := ⟨_, rfl⟩
      rw [hx] at hat hC hE HE
      have HEF := Aside0.mk (entF hC.fp.lenC hC.fc.lenC hat)
      have HIC := Aside0.mk hC.fc.blk
      have HALL := Aside0.mk (fun V (hV : Below W.heap.size W V) => show (V.cell? ⟨w.heap.size, 0, none⟩ = some (.string rc) ∧ V.cell? ⟨w.heap.size, 1, none⟩ = some (.int .i64 (k : Int)) ∧ V.cell? ⟨w.heap.size, 2, none⟩ = some (.int .u64 sl) ∧ V.cell? ⟨w.heap.size, 3, none⟩ = some (.slice B n cb)) ∧ AtC V ((ad.add (k * 68)).add 33) C from ⟨HAV.out V hV, (HEF.out.below (below_step HB1.out hV)).fc⟩)
      have p0 : (0 : Int) ≤ (k : Int) := by omega
      have p1 : (k : Int) < (m : Int) := hlt
      have p2 : (k : Int) ≤ 1000000 := by omega
      have d1 : decide ((k : Int) < (m : Int)) = true := decide_eq_true hlt
      have d2 : decide (k < m) = true := decide_eq_true (by omega)
      obtain ⟨HV, hHV⟩ := sumC H HHL.out
      rw [hHV.v] at HCO
      have HEQ := run_eq_sum (comE x) H hE.cl HHL.out
      rw [hC.fc.v, hHV.v] at HEQ
      have hguard := guard_32
      obtain ⟨eb, heb⟩ : ∃ t, decide (comE x = H) = t := ⟨_, rfl⟩
      rw [heb] at HEQ HE
      clear heb hHV
      clear hat hC hE hx hkl hlt s0 s1
      refine wp_region_held_drew (S := fun V => (V.cell? ⟨w.heap.size, 0, none⟩ = some (.string rc) ∧ V.cell? ⟨w.heap.size, 1, none⟩ = some (.int .i64 (k : Int)) ∧ V.cell? ⟨w.heap.size, 2, none⟩ = some (.int .u64 sl) ∧ V.cell? ⟨w.heap.size, 3, none⟩ = some (.slice B n cb)) ∧ AtC V ((ad.add (k * 68)).add 33) C) (by kernel_rfl) (HALL.out _ (below_drew1 (Below.refl _ _))) (fun hHeld => ?_)
      (refine wpAnyH_take (i := 0) (v := ?_) rfl (by kernel_rfl) (by kernel_rfl) (by kernel_rfl) (fun _ _ _ h => h) (Or.inl ⟨by rfl, ?_⟩) (by assumption) ?_; (case' refine_2 => (intro w hSw; go_simp; try with_reducible rfl)); (try simp only [Act.put, List.getElem_toArray, List.getElem_cons_zero, List.getElem_cons_succ, List.setIfInBounds_toArray, List.set_cons_zero, List.set_cons_succ]))
      (refine wpAnyH_ready (rs := [1]) (by kernel_rfl) (by simp) (AllReadyH.cons rfl (fun K hK => ?_) AllReadyH.nil); go_simp)
      refine (HMAY.out _ (below_drew1 HB1.out)).mono ?_
      rintro e w3 ⟨rfl, hb⟩
      have HB2 := Aside0.mk (below_drew_of hb)
      have HB3 := Aside0.mk (below_step HB1.out HB2.out)
      clear hb
      (refine Shut.out hK _ _ (HALL.out _ HB2.out) (fun hHeld => ?_); clear hK K; (try simp only [Act.put, List.getElem_toArray, List.getElem_cons_zero, List.getElem_cons_succ, List.setIfInBounds_toArray, List.set_cons_zero, List.set_cons_succ]))
      (refine wpAnyH_take (i := 2) (v := ?_) rfl (by kernel_rfl) (by kernel_rfl) (by kernel_rfl) (fun _ _ _ h => h) (Or.inl ⟨by rfl, ?_⟩) (by assumption) ?_; (case' refine_2 => (intro w hSw; go_simp; try with_reducible rfl)); (try simp only [Act.put, List.getElem_toArray, List.getElem_cons_zero, List.getElem_cons_succ, List.setIfInBounds_toArray, List.set_cons_zero, List.set_cons_succ]))
      (refine wpAnyH_take (i := 3) (v := ?_) rfl (by kernel_rfl) (by kernel_rfl) (by kernel_rfl) (fun _ _ _ h => h) (Or.inl ⟨by rfl, ?_⟩) (by assumption) ?_; (case' refine_2 => (intro w hSw; go_simp; try with_reducible rfl)); (try simp only [Act.put, List.getElem_toArray, List.getElem_cons_zero, List.getElem_cons_succ, List.setIfInBounds_toArray, List.set_cons_zero, List.set_cons_succ]))
      (refine wpAnyH_take (i := 4) (v := ?_) rfl (by kernel_rfl) (by kernel_rfl) (by kernel_rfl) (fun _ _ _ h => h) (Or.inl ⟨by rfl, ?_⟩) (by assumption) ?_; (case' refine_2 => (intro w hSw; go_simp; try with_reducible rfl)); (try simp only [Act.put, List.getElem_toArray, List.getElem_cons_zero, List.getElem_cons_succ, List.setIfInBounds_toArray, List.set_cons_zero, List.set_cons_succ]))
      (refine wpAnyH_take (i := 5) (v := ?_) rfl (by kernel_rfl) (by kernel_rfl) (by kernel_rfl) (fun _ _ _ h => h) (Or.inl ⟨by rfl, ?_⟩) (by assumption) ?_; (case' refine_2 => (intro w hSw; go_simp; try with_reducible rfl)); (try simp only [Act.put, List.getElem_toArray, List.getElem_cons_zero, List.getElem_cons_succ, List.setIfInBounds_toArray, List.set_cons_zero, List.set_cons_succ]))
      (refine wpAnyH_take (i := 6) (v := ?_) rfl (by kernel_rfl) (by kernel_rfl) (by kernel_rfl) (fun _ _ _ h => h) (Or.inl ⟨by rfl, ?_⟩) (by assumption) ?_; (case' refine_2 => (intro w hSw; go_simp; try with_reducible rfl)); (try simp only [Act.put, List.getElem_toArray, List.getElem_cons_zero, List.getElem_cons_succ, List.setIfInBounds_toArray, List.set_cons_zero, List.set_cons_succ]))
      (refine wpAnyH_take (i := 7) (v := ?_) rfl (by kernel_rfl) (by kernel_rfl) (by kernel_rfl) (fun _ _ _ h => h) (Or.inl ⟨by rfl, ?_⟩) (by assumption) ?_; (case' refine_2 => (intro w hSw; go_simp; try with_reducible rfl)); (try simp only [Act.put, List.getElem_toArray, List.getElem_cons_zero, List.getElem_cons_succ, List.setIfInBounds_toArray, List.set_cons_zero, List.set_cons_succ]))
      (refine wpAnyH_take (i := 8) (v := ?_) rfl (by kernel_rfl) (by kernel_rfl) (by kernel_rfl) (fun _ _ _ h => h) (Or.inl ⟨by rfl, ?_⟩) (by assumption) ?_; (case' refine_2 => (intro w hSw; go_simp; try with_reducible rfl)); (try simp only [Act.put, List.getElem_toArray, List.getElem_cons_zero, List.getElem_cons_succ, List.setIfInBounds_toArray, List.set_cons_zero, List.set_cons_succ]))
      (refine wpAnyH_take (i := 9) (v := ?_) rfl (by kernel_rfl) (by kernel_rfl) (by kernel_rfl) (fun _ _ _ h => h) (Or.inl ⟨by rfl, ?_⟩) (by assumption) ?_; (case' refine_2 => (intro w hSw; go_simp; try with_reducible rfl)); (try simp only [Act.put, List.getElem_toArray, List.getElem_cons_zero, List.getElem_cons_succ, List.setIfInBounds_toArray, List.set_cons_zero, List.set_cons_succ]))
      (refine wpAnyH_take (i := 10) (v := ?_) rfl (by kernel_rfl) (by kernel_rfl) (by kernel_rfl) (fun _ _ _ h => h) (Or.inl ⟨by rfl, ?_⟩) (by assumption) ?_; (case' refine_2 => (intro w hSw; go_simp; try with_reducible rfl)); (try simp only [Act.put, List.getElem_toArray, List.getElem_cons_zero, List.getElem_cons_succ, List.setIfInBounds_toArray, List.set_cons_zero, List.set_cons_succ]))
      (refine wpAnyH_take (i := 11) (v := ?_) rfl (by kernel_rfl) (by kernel_rfl) (by kernel_rfl) (fun _ _ _ h => h) (Or.inl ⟨by rfl, ?_⟩) (by assumption) ?_; (case' refine_2 => (intro w hSw; go_simp; try with_reducible rfl)); (try simp only [Act.put, List.getElem_toArray, List.getElem_cons_zero, List.getElem_cons_succ, List.setIfInBounds_toArray, List.set_cons_zero, List.set_cons_succ]))
      (refine wpAnyH_take (i := 12) (v := ?_) rfl (by kernel_rfl) (by kernel_rfl) (by kernel_rfl) (fun _ _ _ h => h) (Or.inl ⟨by rfl, ?_⟩) (by assumption) ?_; (case' refine_2 => (intro w hSw; go_simp; try with_reducible rfl)); (try simp only [Act.put, List.getElem_toArray, List.getElem_cons_zero, List.getElem_cons_succ, List.setIfInBounds_toArray, List.set_cons_zero, List.set_cons_succ]))
      (refine wpAnyH_take (i := 13) (v := ?_) rfl (by kernel_rfl) (by kernel_rfl) (by kernel_rfl) (fun _ _ _ h => h) (Or.inl ⟨by rfl, ?_⟩) (by assumption) ?_; (case' refine_2 => (intro w hSw; go_simp; try with_reducible rfl)); (try simp only [Act.put, List.getElem_toArray, List.getElem_cons_zero, List.getElem_cons_succ, List.setIfInBounds_toArray, List.set_cons_zero, List.set_cons_succ]))
      (refine wpAnyH_take (i := 14) (v := ?_) rfl (by kernel_rfl) (by kernel_rfl) (by kernel_rfl) (fun _ _ _ h => h) (Or.inl ⟨by rfl, ?_⟩) (by assumption) ?_; (case' refine_2 => (intro w hSw; go_simp; try with_reducible rfl)); (try simp only [Act.put, List.getElem_toArray, List.getElem_cons_zero, List.getElem_cons_succ, List.setIfInBounds_toArray, List.set_cons_zero, List.set_cons_succ]))
      (refine wpAnyH_take (i := 15) rfl (by kernel_rfl) (by kernel_rfl) (by kernel_rfl) (fun _ _ _ h => h) (yieldsIf_load_at (by rfl) _ _ rfl ((ad.add (k * 68)).add 33) rfl C _ (fun _ h => h.2) (by assumption) rfl HIC.out) (by assumption) ?_; (try simp only [Act.put, List.getElem_toArray, List.getElem_cons_zero, List.getElem_cons_succ, List.setIfInBounds_toArray, List.set_cons_zero, List.set_cons_succ]))
      (refine wpAnyH_take (i := 16) (v := ?_) rfl (by kernel_rfl) (by kernel_rfl) (by kernel_rfl) (fun _ _ _ h => h) (Or.inl ⟨by rfl, ?_⟩) (by assumption) ?_; (case' refine_2 => (intro w hSw; go_simp; try with_reducible rfl)); (try simp only [Act.put, List.getElem_toArray, List.getElem_cons_zero, List.getElem_cons_succ, List.setIfInBounds_toArray, List.set_cons_zero, List.set_cons_succ]))
      (refine wpAnyH_take (i := 17) (v := ?_) rfl (by kernel_rfl) (by kernel_rfl) (by kernel_rfl) (fun _ _ _ h => h) (Or.inl ⟨by rfl, ?_⟩) (by assumption) ?_; (case' refine_2 => (intro w hSw; go_simp; try with_reducible rfl)); (try simp only [Act.put, List.getElem_toArray, List.getElem_cons_zero, List.getElem_cons_succ, List.setIfInBounds_toArray, List.set_cons_zero, List.set_cons_succ]))
      (refine wpAnyH_take (i := 18) (v := ?_) rfl (by kernel_rfl) (by kernel_rfl) (by kernel_rfl) (fun _ _ _ h => h) (Or.inl ⟨by rfl, ?_⟩) (by assumption) ?_; (case' refine_2 => (intro w hSw; go_simp; try with_reducible rfl)); (try simp only [Act.put, List.getElem_toArray, List.getElem_cons_zero, List.getElem_cons_succ, List.setIfInBounds_toArray, List.set_cons_zero, List.set_cons_succ]))
      (refine wpAnyH_take (i := 19) (v := ?_) rfl (by kernel_rfl) (by kernel_rfl) (by kernel_rfl) (fun _ _ _ h => h) (Or.inl ⟨by rfl, ?_⟩) (by assumption) ?_; (case' refine_2 => (intro w hSw; go_simp; try with_reducible rfl)); (try simp only [Act.put, List.getElem_toArray, List.getElem_cons_zero, List.getElem_cons_succ, List.setIfInBounds_toArray, List.set_cons_zero, List.set_cons_succ]))
      (refine wpAnyH_ready (rs := [20]) (by kernel_rfl) (by simp) (AllReadyH.cons rfl (fun K hK => ?_) AllReadyH.nil); go_simp)
      refine (HCO.out _ HB3.out).mono ?_
      rintro e w4 ⟨rfl, hb⟩
      have HB4 := Aside0.mk (below_step HB2.out hb)
      have HB5 := Aside0.mk (below_step HB3.out hb)
      clear hb
      (refine Shut.out hK _ _ (HALL.out _ HB4.out) (fun hHeld => ?_); clear hK K; (try simp only [Act.put, List.getElem_toArray, List.getElem_cons_zero, List.getElem_cons_succ, List.setIfInBounds_toArray, List.set_cons_zero, List.set_cons_succ]))
      (refine wpAnyH_take (i := 21) (v := ?_) rfl (by kernel_rfl) (by kernel_rfl) (by kernel_rfl) (fun _ _ _ h => h) (Or.inl ⟨by rfl, ?_⟩) (by assumption) ?_; (case' refine_2 => (intro w hSw; go_simp; try with_reducible rfl)); (try simp only [Act.put, List.getElem_toArray, List.getElem_cons_zero, List.getElem_cons_succ, List.setIfInBounds_toArray, List.set_cons_zero, List.set_cons_succ]))
      clear HEQ
      (refine wpAnyH_take (i := 22) (v := ?_) rfl (by kernel_rfl) (by kernel_rfl) (by kernel_rfl) (fun _ _ _ h => h) (Or.inl ⟨by rfl, ?_⟩) (by assumption) ?_; (case' refine_2 => (intro w hSw; go_simp; try with_reducible rfl)); (try simp only [Act.put, List.getElem_toArray, List.getElem_cons_zero, List.getElem_cons_succ, List.setIfInBounds_toArray, List.set_cons_zero, List.set_cons_succ]))
      (refine wpAnyH_take (i := 23) (v := ?_) rfl (by kernel_rfl) (by kernel_rfl) (by kernel_rfl) (fun _ _ _ h => h) (Or.inl ⟨by rfl, ?_⟩) (by assumption) ?_; (case' refine_2 => (intro w hSw; go_simp; try with_reducible rfl)); (try simp only [Act.put, List.getElem_toArray, List.getElem_cons_zero, List.getElem_cons_succ, List.setIfInBounds_toArray, List.set_cons_zero, List.set_cons_succ]))
      refine wpAnyH_done (by kernel_rfl) ?_ _
      go_wp2_with (fail)
      go_ret
      exact ⟨by rw [HE.out]; first | done | rfl, HB5.out⟩
    · have HE := Aside0.mk (HOUT.out (by rw [HF.out.1]; exact hlt))
      have d1 : decide (sq < (m : Int)) = false := decide_eq_false hlt
      clear hlt s0 s1
      refine wp_region_held_drew (S := fun V => V.cell? ⟨w.heap.size, 0, none⟩ = some (.string rc) ∧ V.cell? ⟨w.heap.size, 1, none⟩ = some (.int .i64 sq) ∧ V.cell? ⟨w.heap.size, 2, none⟩ = some (.int .u64 sl) ∧ V.cell? ⟨w.heap.size, 3, none⟩ = some (.slice B n cb)) (by kernel_rfl) (HAV.out _ (below_drew1 (Below.refl _ _))) (fun hHeld => ?_)
      (refine wpAnyH_take (i := 0) (v := ?_) rfl (by kernel_rfl) (by kernel_rfl) (by kernel_rfl) (fun _ _ _ h => h) (Or.inl ⟨by rfl, ?_⟩) (by assumption) ?_; (case' refine_2 => (intro w hSw; go_simp; try with_reducible rfl)); (try simp only [Act.put, List.getElem_toArray, List.getElem_cons_zero, List.getElem_cons_succ, List.setIfInBounds_toArray, List.set_cons_zero, List.set_cons_succ]))
      (refine wpAnyH_ready (rs := [1]) (by kernel_rfl) (by simp) (AllReadyH.cons rfl (fun K hK => ?_) AllReadyH.nil); go_simp)
      refine (HMAY.out _ (below_drew1 HB1.out)).mono ?_
      rintro e w3 ⟨rfl, hb⟩
      have HB2 := Aside0.mk (below_drew_of hb)
      have HB3 := Aside0.mk (below_step HB1.out HB2.out)
      clear hb
      (refine Shut.out hK _ _ (HAV.out _ HB2.out) (fun hHeld => ?_); clear hK K; (try simp only [Act.put, List.getElem_toArray, List.getElem_cons_zero, List.getElem_cons_succ, List.setIfInBounds_toArray, List.set_cons_zero, List.set_cons_succ]))
      (refine wpAnyH_take (i := 2) (v := ?_) rfl (by kernel_rfl) (by kernel_rfl) (by kernel_rfl) (fun _ _ _ h => h) (Or.inl ⟨by rfl, ?_⟩) (by assumption) ?_; (case' refine_2 => (intro w hSw; go_simp; try with_reducible rfl)); (try simp only [Act.put, List.getElem_toArray, List.getElem_cons_zero, List.getElem_cons_succ, List.setIfInBounds_toArray, List.set_cons_zero, List.set_cons_succ]))
      (refine wpAnyH_take (i := 3) (v := ?_) rfl (by kernel_rfl) (by kernel_rfl) (by kernel_rfl) (fun _ _ _ h => h) (Or.inl ⟨by rfl, ?_⟩) (by assumption) ?_; (case' refine_2 => (intro w hSw; go_simp; try with_reducible rfl)); (try simp only [Act.put, List.getElem_toArray, List.getElem_cons_zero, List.getElem_cons_succ, List.setIfInBounds_toArray, List.set_cons_zero, List.set_cons_succ]))
      (refine wpAnyH_take (i := 4) (v := ?_) rfl (by kernel_rfl) (by kernel_rfl) (by kernel_rfl) (fun _ _ _ h => h) (Or.inl ⟨by rfl, ?_⟩) (by assumption) ?_; (case' refine_2 => (intro w hSw; go_simp; try with_reducible rfl)); (try simp only [Act.put, List.getElem_toArray, List.getElem_cons_zero, List.getElem_cons_succ, List.setIfInBounds_toArray, List.set_cons_zero, List.set_cons_succ]))
      (refine wpAnyH_take (i := 5) (v := ?_) rfl (by kernel_rfl) (by kernel_rfl) (by kernel_rfl) (fun _ _ _ h => h) (Or.inl ⟨by rfl, ?_⟩) (by assumption) ?_; (case' refine_2 => (intro w hSw; go_simp; try with_reducible rfl)); (try simp only [Act.put, List.getElem_toArray, List.getElem_cons_zero, List.getElem_cons_succ, List.setIfInBounds_toArray, List.set_cons_zero, List.set_cons_succ]))
      (refine wpAnyH_take (i := 6) (v := ?_) rfl (by kernel_rfl) (by kernel_rfl) (by kernel_rfl) (fun _ _ _ h => h) (Or.inl ⟨by rfl, ?_⟩) (by assumption) ?_; (case' refine_2 => (intro w hSw; go_simp; try with_reducible rfl)); (try simp only [Act.put, List.getElem_toArray, List.getElem_cons_zero, List.getElem_cons_succ, List.setIfInBounds_toArray, List.set_cons_zero, List.set_cons_succ]))
      (refine wpAnyH_take (i := 7) (v := ?_) rfl (by kernel_rfl) (by kernel_rfl) (by kernel_rfl) (fun _ _ _ h => h) (Or.inl ⟨by rfl, ?_⟩) (by assumption) ?_; (case' refine_2 => (intro w hSw; go_simp; try with_reducible rfl)); (try simp only [Act.put, List.getElem_toArray, List.getElem_cons_zero, List.getElem_cons_succ, List.setIfInBounds_toArray, List.set_cons_zero, List.set_cons_succ]))
      (refine wpAnyH_take (i := 8) (v := ?_) rfl (by kernel_rfl) (by kernel_rfl) (by kernel_rfl) (fun _ _ _ h => h) (Or.inl ⟨by rfl, ?_⟩) (by assumption) ?_; (case' refine_2 => (intro w hSw; go_simp; try with_reducible rfl)); (try simp only [Act.put, List.getElem_toArray, List.getElem_cons_zero, List.getElem_cons_succ, List.setIfInBounds_toArray, List.set_cons_zero, List.set_cons_succ]))
      (refine wpAnyH_take (i := 9) (v := ?_) rfl (by kernel_rfl) (by kernel_rfl) (by kernel_rfl) (fun _ _ _ h => h) (Or.inl ⟨by rfl, ?_⟩) (by assumption) ?_; (case' refine_2 => (intro w hSw; go_simp; try with_reducible rfl)); (try simp only [Act.put, List.getElem_toArray, List.getElem_cons_zero, List.getElem_cons_succ, List.setIfInBounds_toArray, List.set_cons_zero, List.set_cons_succ]))
      (refine wpAnyH_take (i := 10) (v := undef) rfl (by kernel_rfl) (by kernel_rfl) (by kernel_rfl) (fun _ _ _ h => h) (Or.inr ⟨by rfl, rfl⟩) (by assumption) ?_; (try simp only [Act.put, List.getElem_toArray, List.getElem_cons_zero, List.getElem_cons_succ, List.setIfInBounds_toArray, List.set_cons_zero, List.set_cons_succ]))
      (refine wpAnyH_take (i := 11) (v := undef) rfl (by kernel_rfl) (by kernel_rfl) (by kernel_rfl) (fun _ _ _ h => h) (Or.inr ⟨by rfl, rfl⟩) (by assumption) ?_; (try simp only [Act.put, List.getElem_toArray, List.getElem_cons_zero, List.getElem_cons_succ, List.setIfInBounds_toArray, List.set_cons_zero, List.set_cons_succ]))
      (refine wpAnyH_take (i := 12) (v := undef) rfl (by kernel_rfl) (by kernel_rfl) (by kernel_rfl) (fun _ _ _ h => h) (Or.inr ⟨by rfl, rfl⟩) (by assumption) ?_; (try simp only [Act.put, List.getElem_toArray, List.getElem_cons_zero, List.getElem_cons_succ, List.setIfInBounds_toArray, List.set_cons_zero, List.set_cons_succ]))
      (refine wpAnyH_take (i := 13) (v := undef) rfl (by kernel_rfl) (by kernel_rfl) (by kernel_rfl) (fun _ _ _ h => h) (Or.inr ⟨by rfl, rfl⟩) (by assumption) ?_; (try simp only [Act.put, List.getElem_toArray, List.getElem_cons_zero, List.getElem_cons_succ, List.setIfInBounds_toArray, List.set_cons_zero, List.set_cons_succ]))
      (refine wpAnyH_take (i := 14) (v := undef) rfl (by kernel_rfl) (by kernel_rfl) (by kernel_rfl) (fun _ _ _ h => h) (Or.inr ⟨by rfl, rfl⟩) (by assumption) ?_; (try simp only [Act.put, List.getElem_toArray, List.getElem_cons_zero, List.getElem_cons_succ, List.setIfInBounds_toArray, List.set_cons_zero, List.set_cons_succ]))
      (refine wpAnyH_take (i := 15) (v := undef) rfl (by kernel_rfl) (by kernel_rfl) (by kernel_rfl) (fun _ _ _ h => h) (Or.inr ⟨by rfl, rfl⟩) (by assumption) ?_; (try simp only [Act.put, List.getElem_toArray, List.getElem_cons_zero, List.getElem_cons_succ, List.setIfInBounds_toArray, List.set_cons_zero, List.set_cons_succ]))
      (refine wpAnyH_take (i := 16) (v := undef) rfl (by kernel_rfl) (by kernel_rfl) (by kernel_rfl) (fun _ _ _ h => h) (Or.inr ⟨by rfl, rfl⟩) (by assumption) ?_; (try simp only [Act.put, List.getElem_toArray, List.getElem_cons_zero, List.getElem_cons_succ, List.setIfInBounds_toArray, List.set_cons_zero, List.set_cons_succ]))
      (refine wpAnyH_take (i := 17) (v := undef) rfl (by kernel_rfl) (by kernel_rfl) (by kernel_rfl) (fun _ _ _ h => h) (Or.inr ⟨by rfl, rfl⟩) (by assumption) ?_; (try simp only [Act.put, List.getElem_toArray, List.getElem_cons_zero, List.getElem_cons_succ, List.setIfInBounds_toArray, List.set_cons_zero, List.set_cons_succ]))
      (refine wpAnyH_take (i := 18) (v := undef) rfl (by kernel_rfl) (by kernel_rfl) (by kernel_rfl) (fun _ _ _ h => h) (Or.inr ⟨by rfl, rfl⟩) (by assumption) ?_; (try simp only [Act.put, List.getElem_toArray, List.getElem_cons_zero, List.getElem_cons_succ, List.setIfInBounds_toArray, List.set_cons_zero, List.set_cons_succ]))
      (refine wpAnyH_take (i := 19) (v := undef) rfl (by kernel_rfl) (by kernel_rfl) (by kernel_rfl) (fun _ _ _ h => h) (Or.inr ⟨by rfl, rfl⟩) (by assumption) ?_; (try simp only [Act.put, List.getElem_toArray, List.getElem_cons_zero, List.getElem_cons_succ, List.setIfInBounds_toArray, List.set_cons_zero, List.set_cons_succ]))
      (refine wpAnyH_take (i := 20) (v := undef) rfl (by kernel_rfl) (by kernel_rfl) (by kernel_rfl) (fun _ _ _ h => h) (Or.inr ⟨by rfl, rfl⟩) (by assumption) ?_; (try simp only [Act.put, List.getElem_toArray, List.getElem_cons_zero, List.getElem_cons_succ, List.setIfInBounds_toArray, List.set_cons_zero, List.set_cons_succ]))
      (refine wpAnyH_take (i := 21) (v := undef) rfl (by kernel_rfl) (by kernel_rfl) (by kernel_rfl) (fun _ _ _ h => h) (Or.inr ⟨by rfl, rfl⟩) (by assumption) ?_; (try simp only [Act.put, List.getElem_toArray, List.getElem_cons_zero, List.getElem_cons_succ, List.setIfInBounds_toArray, List.set_cons_zero, List.set_cons_succ]))
      (refine wpAnyH_take (i := 22) (v := ?_) rfl (by kernel_rfl) (by kernel_rfl) (by kernel_rfl) (fun _ _ _ h => h) (Or.inl ⟨by rfl, ?_⟩) (by assumption) ?_; (case' refine_2 => (intro w hSw; go_simp; try with_reducible rfl)); (try simp only [Act.put, List.getElem_toArray, List.getElem_cons_zero, List.getElem_cons_succ, List.setIfInBounds_toArray, List.set_cons_zero, List.set_cons_succ]))
      (refine wpAnyH_take (i := 23) (v := ?_) rfl (by kernel_rfl) (by kernel_rfl) (by kernel_rfl) (fun _ _ _ h => h) (Or.inl ⟨by rfl, ?_⟩) (by assumption) ?_; (case' refine_2 => (intro w hSw; go_simp; try with_reducible rfl)); (try simp only [Act.put, List.getElem_toArray, List.getElem_cons_zero, List.getElem_cons_succ, List.setIfInBounds_toArray, List.set_cons_zero, List.set_cons_succ]))
      refine wpAnyH_done (by kernel_rfl) ?_ _
      go_wp2_with (fail)
      go_ret
      exact ⟨by rw [HE.out]; first | done | rfl, HB3.out⟩
end Go.Proofs.Ytfpkgdenohcglaa.Crt
/- Text of a string's bytes (a conversion and a call, one step for the printer). -/
namespace Go.Proofs.Ytfpkgdenohcglaa.PZ
set_option linter.unusedVariables false
open Go.RowKit Go.Proofs.Ytfpkgdenohcglaa.Base Go.Proofs.Ytfpkgdenohcglaa.TlvPlain Go.Proofs.Ytfpkgdenohcglaa.Lo Go.Proofs.YtfpkgdenohcglaaW.PrintWords
theorem bytes_row (s : ByteArray) (hs : s.size < 140737488355000) (W : World) : Rb (Lib.bytesWorld W 5 s) (some ⟨W.heap.size, 0, none⟩) (bytesOf s) := by
  have h := Kd.C_of_reads (d := (0 : Int)) (h1 := fun _ => rfl) (bytes_reads W 5 s (by omega))
  rw [← bytesOf_length s] at h
  exact h
theorem bytes_cap (s : ByteArray) (W : World) : (bytesOf s).length ≤ grownCap W s.size 0 5 := by
  rw [bytesOf_length]
  exact grownCap_ge W s.size 0 _
end Go.Proofs.Ytfpkgdenohcglaa.PZ
/- The document's Put (events) walked (printed by gen_evtput.py); what was put is got. -/
namespace Go.Proofs.Ytfpkgdenohcglaa.Evt
set_option linter.unusedVariables false
set_option linter.unusedSimpArgs false
open Go.RowKit Go.Proofs.Ytfpkgdenohcglaa.Base Go.Proofs.Ytfpkgdenohcglaa.TlvPlain Go.Proofs.Ytfpkgdenohcglaa.Lo Go.Proofs.Ytfpkgdenohcglaa.RdPlain Go.Proofs.Ytfpkgdenohcglaa.Aid Go.Proofs.Ytfpkgdenohcglaa.ShaPlain Go.Proofs.Ytfpkgdenohcglaa.Sha Go.Proofs.Ytfpkgdenohcglaa.Com Go.Proofs.Ytfpkgdenohcglaa.Chn Go.Proofs.YtfpkgdenohcglaaW.PrintWords Go.Proofs.YtfpkgdenohcglaaW.PrintLast Go.Proofs.YtfpkgdenohcglaaW.PrintMore
def putV (x : Evn) : List Int := [x.1] ++ intB x.2.1 ++ textB (bytesOf x.2.2.1) ++ textB (bytesOf x.2.2.2)
theorem get_put {x : Evn} (hm : mayE x = true) (h1 : x.2.2.1.size ≤ 16) (h2 : x.2.2.2.size ≤ 16) : getE (putV x) = some x := by
  have hm' := hm
  unfold mayE at hm
  simp only [Bool.and_eq_true, decide_eq_true_eq] at hm
  have e1 : takeO (some (putV x)) 1 = ([x.1], some (numB x.2.1 ++ (textB (bytesOf x.2.2.1) ++ textB (bytesOf x.2.2.2)))) := by
    have := take_app [x.1] (numB x.2.1 ++ (textB (bytesOf x.2.2.1) ++ textB (bytesOf x.2.2.2)))
    unfold putV intB
    rw [u64 hm.2.1 (by omega), List.append_assoc, List.append_assoc]
    exact this
  have e2 : countO (some (numB x.2.1 ++ (textB (bytesOf x.2.2.1) ++ textB (bytesOf x.2.2.2)))) 1099511627776 = (x.2.1, some (textB (bytesOf x.2.2.1) ++ textB (bytesOf x.2.2.2))) := count_numB hm.2.1 hm.2.2.1 (by decide) _
  have e3 : textO (some (textB (bytesOf x.2.2.1) ++ textB (bytesOf x.2.2.2))) 16 = (bytesOf x.2.2.1, some (textB (bytesOf x.2.2.2))) := text_textB (by rw [bytesOf_length]; omega) (by decide) _
  have e4 : textO (some (textB (bytesOf x.2.2.2))) 16 = (bytesOf x.2.2.2, some []) := by
    have := text_textB (l := bytesOf x.2.2.2) (most := 16) (by rw [bytesOf_length]; omega) (by decide) []
    rwa [List.append_nil] at this
  unfold getE
  rw [e1]
  dsimp only
  rw [e2]
  dsimp only
  rw [e3]
  dsimp only
  rw [e4]
  dsimp only
  rw [str_bytes, str_bytes]
  exact if_pos hm'
section
variable {o : Oper} {a : Act} {Q : Exit → Act → World → Prop} {Kc : Act → World → Prop} {W : World}
theorem wp_bytes (x : Operand) (ho : o.op = .convert 9 25 x) (s : ByteArray) (hx : a.eval x = .string s)
    (h : Kc (a.put o.dst (.slice (some ⟨W.heap.size, 0, none⟩) s.size (grownCap W s.size 0 5))) (Lib.bytesWorld W 5 s)) : Oper.wp Try.prog o a W Kc Q := by
  have hr := print_bytes (P := Try.prog) 9 25 5 Try.underlying9 Try.underlying25 Try.underlying5 s W
  unfold Oper.wp execOp
  simp only [ho, hx, Sem.run_bind, hr, Result.andThen_ok]
  exact h
end
theorem rb_grown {W W1 : World} {xs : List Int} {v : Value} {ys : List Int} {base : Nat} {ok : Nat → Prop} {g : Nat} (h : Rb W (some ⟨g, 0, none⟩) xs) (hv : Kd.R (Kd.int .u8) 5 W base ok v ys) (hg : W.grownBy W1 v.ownBlock) (hne : some g ≠ v.ownBlock) : Rb W1 (some ⟨g, 0, none⟩) xs := by
  cases hb : v.ownBlock with
  | none => rw [hb] at hg; exact reads_keep h (KeepBut.of_grown hg W.heap.size) (fun a e h0 => by
      cases e
      have h2 := rb_cells h 0
      obtain ⟨x, hx⟩ : ∃ x, xs[0]? = some x := ⟨_, List.getElem?_eq_getElem h0⟩
      have h3 := World.block_lt_of_cell? _ _ (h2 (.int .u8 x) (by unfold nums; rw [List.getElem?_map, hx]; rfl))
      exact Nat.ne_of_lt h3)
  | some q => rw [hb] at hg hne; exact rb_row h hg (fun ad e => by cases e; exact fun e => hne (by rw [← e]))
theorem text_n (A0 : Option Addr) (c0 n0 : Nat) (l : List Int) (w : World) (h0 : Rb w A0 l) (e0 : l.length = n0) (hc0 : n0 ≤ c0) (hn : n0 ≤ 100000) :
    Calls Try.prog 78 #[.slice A0 n0 c0] w (Makes w (textB l)) := by
  subst e0
  exact rtext_c A0 c0 l w h0 hc0 (by omega)
set_option maxHeartbeats 8000000 in
set_option maxRecDepth 100000 in
theorem rput_c (k t : Int) (sa sb : ByteArray) (hm : mayE (k, t, sa, sb) = true) (h1 : sa.size ≤ 1000) (h2 : sb.size ≤ 1000) (w : World) :
    Calls Try.prog 67 #[.agg #[.int .i64 k, .int .i64 t, .string sa, .string sb]] w fun e w' => ∃ v, e = .returned (.tuple #[v, .int .i64 0]) ∧ Ob w' w.heap.size v (putV (k, t, sa, sb)) ∧ Below w.heap.size w w' := by
  have hk : 1 ≤ k ∧ k ≤ 14 := by unfold mayE at hm; simp only [Bool.and_eq_true, decide_eq_true_eq] at hm; exact hm.1
  have hwk : IntKind.u8.wrap k = k := IntWalk.u8_in k ⟨by omega, by omega⟩
  have HMAY := Aside0.mk (fun V => rmay_c (k, t, sa, sb) (by show sa.size ≤ _; omega) (by show sb.size ≤ _; omega) V)
  rw [hm] at HMAY
  have HIL := Aside0.mk (intB_len t)
  have HSZ := Aside0.mk (And.intro h1 h2)
  have HTL := Aside0.mk (And.intro (textB_len (l := bytesOf sa) (by rw [bytesOf_length]; omega)) (textB_len (l := bytesOf sb) (by rw [bytesOf_length]; omega)))
  rw [bytesOf_length, bytesOf_length] at HTL
  have HTL := Aside0.mk (show (textB (bytesOf sa)).length ≤ 1009 ∧ (textB (bytesOf sb)).length ≤ 1009 from ⟨by have := HTL.out.1; omega, by have := HTL.out.2; omega⟩)
  have HB1 := Aside0.mk (below_alloc (Below.refl w.heap.size w) (.cells #[.int .i64 k, .int .i64 t, .string sa, .string sb] 60))
  have HK1 := Aside0.mk (show Blk (w.alloc (.cells #[.int .i64 k, .int .i64 t, .string sa, .string sb] 60)) w.heap.size 60 #[.int .i64 k, .int .i64 t, .string sa, .string sb] from blk_new _ _)
  have hu60 := Try.underlying60
  unfold putV
  dsimp only
  clear hm h1 h2 hk
  go_enter Try.func67, Try.ntmps67
  go_upto_region 1 with (fail)
  obtain ⟨W1, hW⟩ : ∃ V, w.alloc (.cells #[.int .i64 k, .int .i64 t, .string sa, .string sb] 60) = V := ⟨_, rfl⟩
  rw [hW] at HB1 HK1
  rw [hW]
  clear hW
  have z0 := HK1.out.cell 0
  have z1 := HK1.out.cell 1
  have z2 := HK1.out.cell 2
  have z3 := HK1.out.cell 3
  simp only [List.getElem?_toArray, List.getElem?_cons_zero, List.getElem?_cons_succ] at z0 z1 z2 z3
  go_wp2_with (fail)
  refine (HMAY.out _).mono ?_
  rintro e w2 ⟨rfl, hb⟩
  have HB2 := Aside0.mk (below_step HB1.out hb)
  have HK2 := Aside0.mk (HK1.out.below hb)
  have HNB := Aside0.mk (show w.heap.size < w2.heap.size from HK2.out.lt)
  have HALL := Aside0.mk (fun V (hV : Below w2.heap.size w2 V) => show V.cell? ⟨w.heap.size, 0, none⟩ = some (.int .i64 k) ∧ V.cell? ⟨w.heap.size, 1, none⟩ = some (.int .i64 t) ∧ V.cell? ⟨w.heap.size, 2, none⟩ = some (.string sa) ∧ V.cell? ⟨w.heap.size, 3, none⟩ = some (.string sb) from ⟨((HK2.out.below hV).cell 0).trans rfl, ((HK2.out.below hV).cell 1).trans rfl, ((HK2.out.below hV).cell 2).trans rfl, ((HK2.out.below hV).cell 3).trans rfl⟩)
  clear hb z0 z1 z2 z3
  go_wp2_with (fail)
  refine wp_region_held_drew (S := fun V => V.cell? ⟨w.heap.size, 0, none⟩ = some (.int .i64 k) ∧ V.cell? ⟨w.heap.size, 1, none⟩ = some (.int .i64 t) ∧ V.cell? ⟨w.heap.size, 2, none⟩ = some (.string sa) ∧ V.cell? ⟨w.heap.size, 3, none⟩ = some (.string sb)) (by kernel_rfl) (HALL.out _ (below_drew1 (Below.refl _ _))) (fun hHeld => ?_)
  (refine wpAnyH_take (i := 0) (v := ?_) rfl (by kernel_rfl) (by kernel_rfl) (by kernel_rfl) (fun _ _ _ h => h) (Or.inl ⟨by rfl, ?_⟩) (by assumption) ?_; (case' refine_2 => (intro w hSw; go_simp; try with_reducible rfl)); (try simp only [Act.put, List.getElem_toArray, List.getElem_cons_zero, List.getElem_cons_succ, List.setIfInBounds_toArray, List.set_cons_zero, List.set_cons_succ]))
  (refine wpAnyH_take (i := 1) (v := ?_) rfl (by kernel_rfl) (by kernel_rfl) (by kernel_rfl) (fun _ _ _ h => h) (Or.inl ⟨by rfl, ?_⟩) (by assumption) ?_; (case' refine_2 => (intro w hSw; go_simp; try with_reducible rfl)); (try simp only [Act.put, List.getElem_toArray, List.getElem_cons_zero, List.getElem_cons_succ, List.setIfInBounds_toArray, List.set_cons_zero, List.set_cons_succ]))
  (refine wpAnyH_take (i := 2) (v := ?_) rfl (by kernel_rfl) (by kernel_rfl) (by kernel_rfl) (fun _ _ _ h => h) (Or.inl ⟨by rfl, ?_⟩) (by assumption) ?_; (case' refine_2 => (intro w hSw; go_simp; try with_reducible rfl)); (try simp only [Act.put, List.getElem_toArray, List.getElem_cons_zero, List.getElem_cons_succ, List.setIfInBounds_toArray, List.set_cons_zero, List.set_cons_succ]))
  (refine wpAnyH_take (i := 4) (v := ?_) rfl (by kernel_rfl) (by kernel_rfl) (by kernel_rfl) (fun _ _ _ h => h) (Or.inl ⟨by rfl, ?_⟩) (by assumption) ?_; (case' refine_2 => (intro w hSw; go_simp; try with_reducible rfl)); (try simp only [Act.put, List.getElem_toArray, List.getElem_cons_zero, List.getElem_cons_succ, List.setIfInBounds_toArray, List.set_cons_zero, List.set_cons_succ]))
  (refine wpAnyH_take (i := 5) (v := ?_) rfl (by kernel_rfl) (by kernel_rfl) (by kernel_rfl) (fun _ _ _ h => h) (Or.inl ⟨by rfl, ?_⟩) (by assumption) ?_; (case' refine_2 => (intro w hSw; go_simp; try with_reducible rfl)); (try simp only [Act.put, List.getElem_toArray, List.getElem_cons_zero, List.getElem_cons_succ, List.setIfInBounds_toArray, List.set_cons_zero, List.set_cons_succ]))
  have HBs := Aside0.mk (below_drew1 (Below.refl w2.heap.size w2))
  refine wpAnyH_ready (rs := [3, 6]) (by kernel_rfl) (by simp) (AllReadyH.cons rfl (fun K hK => ?_) (AllReadyH.cons rfl (fun K hK => ?_) AllReadyH.nil))
  · refine Kd.R_lit_step (Kd.int .u8) (w0 := w2) w2.heap.size 5 rfl (N := 11) rfl (xs := [k]) (inner := [.int .u8 k]) (ok := fun _ => True) (okp := fun _ => True) (by first | (go_simp; done) | (go_simp; rfl)) ⟨rfl, fun j p hj => ?_⟩ (fun _ hk => hk) trivial HBs.out HBs.out.size (by simp) ?_
    · match j, hj with
      | 0, hj => cases hj; rfl
    intro vl zz1 ho hb hg hat
    have HX_1 := Aside0.mk (show Ob zz1 w2.heap.size vl [k] from ho)
    have HB_1 := Aside0.mk hb
    clear ho hb hg hat
    (refine Shut.out hK _ _ (HALL.out _ HB_1.out) (fun hHeld => ?_); clear hK K; (try simp only [Act.put, List.getElem_toArray, List.getElem_cons_zero, List.getElem_cons_succ, List.setIfInBounds_toArray, List.set_cons_zero, List.set_cons_succ]))
    refine wpAnyH_ready (rs := [6]) (by kernel_rfl) (by simp) (AllReadyH.cons rfl (fun K hK => ?_) AllReadyH.nil)
    · go_simp
      refine (rint_c t _).mono ?_
      rintro e zz2 ⟨vx, rfl, ho, hb⟩
      obtain ⟨AI, cI, rfl⟩ := Kd.R_slice ho
      have HI_2 := Aside0.mk (show Ob zz2 w2.heap.size _ (intB t) from Kd.R_lower ho HB_1.out.size)
      have HB_2 := Aside0.mk (below_step HB_1.out hb)
      have HX_2 := Aside0.mk (Kd.R_below HX_1.out hb)
      clear ho hb
      (refine Shut.out hK _ _ (HALL.out _ HB_2.out) (fun hHeld => ?_); clear hK K; (try simp only [Act.put, List.getElem_toArray, List.getElem_cons_zero, List.getElem_cons_succ, List.setIfInBounds_toArray, List.set_cons_zero, List.set_cons_succ]))
      refine wpAnyH_ready (rs := [7]) (by kernel_rfl) (by simp) (AllReadyH.cons rfl (fun K hK => ?_) AllReadyH.nil)
      · refine Kd.R_append_rows_step (Kd.int .u8) (w0 := w2) w2.heap.size rfl (.tmp 11) (.tmp 14) 25 5 (.int .u8 0) 1 rfl Try.underlying25 info_u8 rfl (by decide) (by omega) _ [k] (intB t) _ _ _ (fun _ => True) (fun _ => False) rfl rfl HX_2.out (Kd.R_reads' HI_2.out).2.2 (fun _ _ h => h) (fun _ h => h.elim) (fun _ _ => trivial) HB_2.out HB_2.out.size (by have := HIL.out; simp; omega) ?_
        intro v4 zz3 ho hb hg hat
        have HO_3 := Aside0.mk (show Ob zz3 w2.heap.size v4 ([k] ++ intB t) from ho)
        have HB_3 := Aside0.mk hb
        clear ho hb hg hat
        (refine Shut.out hK _ _ (HALL.out _ HB_3.out) (fun hHeld => ?_); clear hK K; (try simp only [Act.put, List.getElem_toArray, List.getElem_cons_zero, List.getElem_cons_succ, List.setIfInBounds_toArray, List.set_cons_zero, List.set_cons_succ]))
        (refine wpAnyH_take (i := 8) (v := ?_) rfl (by kernel_rfl) (by kernel_rfl) (by kernel_rfl) (fun _ _ _ h => h) (Or.inl ⟨by rfl, ?_⟩) (by assumption) ?_; (case' refine_2 => (intro w hSw; go_simp; try with_reducible rfl)); (try simp only [Act.put, List.getElem_toArray, List.getElem_cons_zero, List.getElem_cons_succ, List.setIfInBounds_toArray, List.set_cons_zero, List.set_cons_succ]))
        refine wpAnyH_done (by kernel_rfl) ?_ _
        clear hHeld
        go_wp2_with (fail)
        have HOd := Aside0.mk (Kd.R_drew HO_3.out)
        have HBd := Aside0.mk (below_drew1 HB_3.out)
        refine wp_region_held_drew (S := fun V => V.cell? ⟨w.heap.size, 0, none⟩ = some (.int .i64 k) ∧ V.cell? ⟨w.heap.size, 1, none⟩ = some (.int .i64 t) ∧ V.cell? ⟨w.heap.size, 2, none⟩ = some (.string sa) ∧ V.cell? ⟨w.heap.size, 3, none⟩ = some (.string sb)) (by kernel_rfl) (HALL.out _ HBd.out) (fun hHeld => ?_)
        (refine wpAnyH_take (i := 0) (v := ?_) rfl (by kernel_rfl) (by kernel_rfl) (by kernel_rfl) (fun _ _ _ h => h) (Or.inl ⟨by rfl, ?_⟩) (by assumption) ?_; (case' refine_2 => (intro w hSw; go_simp; try with_reducible rfl)); (try simp only [Act.put, List.getElem_toArray, List.getElem_cons_zero, List.getElem_cons_succ, List.setIfInBounds_toArray, List.set_cons_zero, List.set_cons_succ]))
        (refine wpAnyH_take (i := 1) (v := ?_) rfl (by kernel_rfl) (by kernel_rfl) (by kernel_rfl) (fun _ _ _ h => h) (Or.inl ⟨by rfl, ?_⟩) (by assumption) ?_; (case' refine_2 => (intro w hSw; go_simp; try with_reducible rfl)); (try simp only [Act.put, List.getElem_toArray, List.getElem_cons_zero, List.getElem_cons_succ, List.setIfInBounds_toArray, List.set_cons_zero, List.set_cons_succ]))
        (refine wpAnyH_take (i := 2) (v := ?_) rfl (by kernel_rfl) (by kernel_rfl) (by kernel_rfl) (fun _ _ _ h => h) (Or.inl ⟨by rfl, ?_⟩) (by assumption) ?_; (case' refine_2 => (intro w hSw; go_simp; try with_reducible rfl)); (try simp only [Act.put, List.getElem_toArray, List.getElem_cons_zero, List.getElem_cons_succ, List.setIfInBounds_toArray, List.set_cons_zero, List.set_cons_succ]))
        (refine wpAnyH_take (i := 6) (v := ?_) rfl (by kernel_rfl) (by kernel_rfl) (by kernel_rfl) (fun _ _ _ h => h) (Or.inl ⟨by rfl, ?_⟩) (by assumption) ?_; (case' refine_2 => (intro w hSw; go_simp; try with_reducible rfl)); (try simp only [Act.put, List.getElem_toArray, List.getElem_cons_zero, List.getElem_cons_succ, List.setIfInBounds_toArray, List.set_cons_zero, List.set_cons_succ]))
        (refine wpAnyH_take (i := 7) (v := ?_) rfl (by kernel_rfl) (by kernel_rfl) (by kernel_rfl) (fun _ _ _ h => h) (Or.inl ⟨by rfl, ?_⟩) (by assumption) ?_; (case' refine_2 => (intro w hSw; go_simp; try with_reducible rfl)); (try simp only [Act.put, List.getElem_toArray, List.getElem_cons_zero, List.getElem_cons_succ, List.setIfInBounds_toArray, List.set_cons_zero, List.set_cons_succ]))
        refine wpAnyH_ready (rs := [3, 8]) (by kernel_rfl) (by simp) (AllReadyH.cons rfl (fun K hK => ?_) (AllReadyH.cons rfl (fun K hK => ?_) AllReadyH.nil))
        · rw [if_pos (by rfl)]
          refine wp_bytes (.tmp 18) rfl sa rfl ?_
          have hb := bytes_below (Below.refl zz3.drew.heap.size zz3.drew) (Nat.le_refl _) 5 sa
          have HO_4 := Aside0.mk (Kd.R_below HOd.out hb)
          have HA_4 := Aside0.mk (PZ.bytes_row sa (by have := HSZ.out; omega) zz3.drew)
          have HAC := Aside0.mk (PZ.bytes_cap sa zz3.drew)
          have HB_4 := Aside0.mk (below_step HBd.out hb)
          obtain ⟨zz4, hw_⟩ : ∃ W_, Lib.bytesWorld zz3.drew 5 sa = W_ := ⟨_, rfl⟩
          obtain ⟨gA, hg_⟩ : ∃ W_, zz3.drew.heap.size = W_ := ⟨_, rfl⟩
          obtain ⟨cA, hc_⟩ : ∃ W_, grownCap zz3.drew sa.size 0 5 = W_ := ⟨_, rfl⟩
          clear hb
          rw [hw_] at HO_4 HB_4 HA_4
          rw [hg_] at HA_4
          rw [hc_] at HAC
          rw [hw_, hg_, hc_]
          clear hw_ hg_ hc_
          (refine Shut.out hK _ _ (HALL.out _ HB_4.out) (fun hHeld => ?_); clear hK K; (try simp only [Act.put, List.getElem_toArray, List.getElem_cons_zero, List.getElem_cons_succ, List.setIfInBounds_toArray, List.set_cons_zero, List.set_cons_succ]))
          refine wpAnyH_ready (rs := [4, 8]) (by kernel_rfl) (by simp) (AllReadyH.cons rfl (fun K hK => ?_) (AllReadyH.cons rfl (fun K hK => ?_) AllReadyH.nil))
          · go_simp
            refine (text_n (some ⟨gA, 0, none⟩) cA sa.size (bytesOf sa) _ HA_4.out (bytesOf_length sa) (by have h := HAC.out; rw [bytesOf_length] at h; exact h) (by have := HSZ.out; omega)).mono ?_
            rintro e zz5 ⟨vx, rfl, ho, hb⟩
            obtain ⟨AT, cT, rfl⟩ := Kd.R_slice ho
            have HO_5 := Aside0.mk (Kd.R_below HO_4.out hb)
            have HA_5 := Aside0.mk (Kd.C_below HA_4.out hb)
            have HT_5 := Aside0.mk (show Ob zz5 w2.heap.size _ (textB (bytesOf sa)) from Kd.R_lower ho HB_4.out.size)
            have HB_5 := Aside0.mk (below_step HB_4.out hb)
            clear ho hb
            (refine Shut.out hK _ _ (HALL.out _ HB_5.out) (fun hHeld => ?_); clear hK K; (try simp only [Act.put, List.getElem_toArray, List.getElem_cons_zero, List.getElem_cons_succ, List.setIfInBounds_toArray, List.set_cons_zero, List.set_cons_succ]))
            refine wpAnyH_ready (rs := [5, 8]) (by kernel_rfl) (by simp) (AllReadyH.cons rfl (fun K hK => ?_) (AllReadyH.cons rfl (fun K hK => ?_) AllReadyH.nil))
            · refine Kd.R_append_rows_step (Kd.int .u8) (w0 := w2) w2.heap.size rfl (.tmp 16) (.tmp 20) 25 5 (.int .u8 0) 1 rfl Try.underlying25 info_u8 rfl (by decide) (by omega) _ ([k] ++ intB t) (textB (bytesOf sa)) _ _ _ (fun _ => True) (fun _ => False) rfl rfl HO_5.out (Kd.R_reads' HT_5.out).2.2 (fun _ _ h => h) (fun _ h => h.elim) (fun _ _ => trivial) HB_5.out HB_5.out.size (by have := HIL.out; have := HTL.out; simp; omega) ?_
              intro v5 zz6 ho hb hg hat
              have HO_6 := Aside0.mk ho
              have HB_6 := Aside0.mk hb
              clear ho hb hg hat
              (refine Shut.out hK _ _ (HALL.out _ HB_6.out) (fun hHeld => ?_); clear hK K; (try simp only [Act.put, List.getElem_toArray, List.getElem_cons_zero, List.getElem_cons_succ, List.setIfInBounds_toArray, List.set_cons_zero, List.set_cons_succ]))
              refine wpAnyH_ready (rs := [8]) (by kernel_rfl) (by simp) (AllReadyH.cons rfl (fun K hK => ?_) AllReadyH.nil)
              · rw [if_pos (by rfl)]
                refine wp_bytes (.tmp 23) rfl sb rfl ?_
                have hb := bytes_below (Below.refl zz6.heap.size zz6) (Nat.le_refl _) 5 sb
                have HO_7 := Aside0.mk (Kd.R_below HO_6.out hb)
                have HC_7 := Aside0.mk (PZ.bytes_row sb (by have := HSZ.out; omega) zz6)
                have HCC := Aside0.mk (PZ.bytes_cap sb zz6)
                have HB_7 := Aside0.mk (below_step HB_6.out hb)
                obtain ⟨zz7, hw_⟩ : ∃ W_, Lib.bytesWorld zz6 5 sb = W_ := ⟨_, rfl⟩
                obtain ⟨gC, hg_⟩ : ∃ W_, zz6.heap.size = W_ := ⟨_, rfl⟩
                obtain ⟨cC, hc_⟩ : ∃ W_, grownCap zz6 sb.size 0 5 = W_ := ⟨_, rfl⟩
                clear hb
                rw [hw_] at HO_7 HB_7 HC_7
                rw [hg_] at HC_7
                rw [hc_] at HCC
                rw [hw_, hg_, hc_]
                clear hw_ hg_ hc_
                (refine Shut.out hK _ _ (HALL.out _ HB_7.out) (fun hHeld => ?_); clear hK K; (try simp only [Act.put, List.getElem_toArray, List.getElem_cons_zero, List.getElem_cons_succ, List.setIfInBounds_toArray, List.set_cons_zero, List.set_cons_succ]))
                refine wpAnyH_ready (rs := [9]) (by kernel_rfl) (by simp) (AllReadyH.cons rfl (fun K hK => ?_) AllReadyH.nil)
                · go_simp
                  refine (text_n (some ⟨gC, 0, none⟩) cC sb.size (bytesOf sb) _ HC_7.out (bytesOf_length sb) (by have h := HCC.out; rw [bytesOf_length] at h; exact h) (by have := HSZ.out; omega)).mono ?_
                  rintro e zz8 ⟨vx, rfl, ho, hb⟩
                  obtain ⟨AT, cT, rfl⟩ := Kd.R_slice ho
                  have HO_8 := Aside0.mk (Kd.R_below HO_7.out hb)
                  have HC_8 := Aside0.mk (Kd.C_below HC_7.out hb)
                  have HT_8 := Aside0.mk (show Ob zz8 w2.heap.size _ (textB (bytesOf sb)) from Kd.R_lower ho HB_7.out.size)
                  have HB_8 := Aside0.mk (below_step HB_7.out hb)
                  clear ho hb
                  (refine Shut.out hK _ _ (HALL.out _ HB_8.out) (fun hHeld => ?_); clear hK K; (try simp only [Act.put, List.getElem_toArray, List.getElem_cons_zero, List.getElem_cons_succ, List.setIfInBounds_toArray, List.set_cons_zero, List.set_cons_succ]))
                  refine wpAnyH_ready (rs := [10]) (by kernel_rfl) (by simp) (AllReadyH.cons rfl (fun K hK => ?_) AllReadyH.nil)
                  · refine Kd.R_append_rows_step (Kd.int .u8) (w0 := w2) w2.heap.size rfl (.tmp 21) (.tmp 25) 25 5 (.int .u8 0) 1 rfl Try.underlying25 info_u8 rfl (by decide) (by omega) _ ([k] ++ intB t ++ textB (bytesOf sa)) (textB (bytesOf sb)) _ _ _ (fun _ => True) (fun _ => False) rfl rfl HO_8.out (Kd.R_reads' HT_8.out).2.2 (fun _ _ h => h) (fun _ h => h.elim) (fun _ _ => trivial) HB_8.out HB_8.out.size (by have := HIL.out; have := HTL.out; simp; omega) ?_
                    intro v6 zz9 ho hb hg hat
                    have HO_9 := Aside0.mk ho
                    have HB_9 := Aside0.mk hb
                    clear ho hb hg hat
                    (refine Shut.out hK _ _ (HALL.out _ HB_9.out) (fun hHeld => ?_); clear hK K; (try simp only [Act.put, List.getElem_toArray, List.getElem_cons_zero, List.getElem_cons_succ, List.setIfInBounds_toArray, List.set_cons_zero, List.set_cons_succ]))
                    (refine wpAnyH_take (i := 11) (v := ?_) rfl (by kernel_rfl) (by kernel_rfl) (by kernel_rfl) (fun _ _ _ h => h) (Or.inl ⟨by rfl, ?_⟩) (by assumption) ?_; (case' refine_2 => (intro w hSw; go_simp; try with_reducible rfl)); (try simp only [Act.put, List.getElem_toArray, List.getElem_cons_zero, List.getElem_cons_succ, List.setIfInBounds_toArray, List.set_cons_zero, List.set_cons_succ]))
                    (refine wpAnyH_take (i := 12) (v := ?_) rfl (by kernel_rfl) (by kernel_rfl) (by kernel_rfl) (fun _ _ _ h => h) (Or.inl ⟨by rfl, ?_⟩) (by assumption) ?_; (case' refine_2 => (intro w hSw; go_simp; try with_reducible rfl)); (try simp only [Act.put, List.getElem_toArray, List.getElem_cons_zero, List.getElem_cons_succ, List.setIfInBounds_toArray, List.set_cons_zero, List.set_cons_succ]))
                    refine wpAnyH_done (by kernel_rfl) ?_ _
                    go_wp2_with (fail)
                    go_ret2
                    exact ⟨_, rfl, Kd.R_lower HO_9.out HB2.out.size, below_step HB2.out HB_9.out⟩
            · rw [if_pos (by rfl)]
              refine wp_bytes (.tmp 23) rfl sb rfl ?_
              have hb := bytes_below (Below.refl zz5.heap.size zz5) (Nat.le_refl _) 5 sb
              have HO_10 := Aside0.mk (Kd.R_below HO_5.out hb)
              have HA_10 := Aside0.mk (Kd.C_below HA_5.out hb)
              have HT_10 := Aside0.mk (Kd.R_below HT_5.out hb)
              have HC_10 := Aside0.mk (PZ.bytes_row sb (by have := HSZ.out; omega) zz5)
              have HCC := Aside0.mk (PZ.bytes_cap sb zz5)
              have HCN := Aside0.mk (show some zz5.heap.size ≠ v4.ownBlock from fun e => Nat.lt_irrefl _ (Kd.R_lt HO_5.out _ e.symm))
              have HB_10 := Aside0.mk (below_step HB_5.out hb)
              obtain ⟨zz10, hw_⟩ : ∃ W_, Lib.bytesWorld zz5 5 sb = W_ := ⟨_, rfl⟩
              obtain ⟨gC, hg_⟩ : ∃ W_, zz5.heap.size = W_ := ⟨_, rfl⟩
              obtain ⟨cC, hc_⟩ : ∃ W_, grownCap zz5 sb.size 0 5 = W_ := ⟨_, rfl⟩
              clear hb
              rw [hw_] at HO_10 HA_10 HT_10 HB_10 HC_10
              rw [hg_] at HC_10 HCN
              rw [hc_] at HCC
              rw [hw_, hg_, hc_]
              clear hw_ hg_ hc_
              (refine Shut.out hK _ _ (HALL.out _ HB_10.out) (fun hHeld => ?_); clear hK K; (try simp only [Act.put, List.getElem_toArray, List.getElem_cons_zero, List.getElem_cons_succ, List.setIfInBounds_toArray, List.set_cons_zero, List.set_cons_succ]))
              refine wpAnyH_ready (rs := [5]) (by kernel_rfl) (by simp) (AllReadyH.cons rfl (fun K hK => ?_) AllReadyH.nil)
              · refine Kd.R_append_rows_step (Kd.int .u8) (w0 := w2) w2.heap.size rfl (.tmp 16) (.tmp 20) 25 5 (.int .u8 0) 1 rfl Try.underlying25 info_u8 rfl (by decide) (by omega) _ ([k] ++ intB t) (textB (bytesOf sa)) _ _ _ (fun _ => True) (fun _ => False) rfl rfl HO_10.out (Kd.R_reads' HT_10.out).2.2 (fun _ _ h => h) (fun _ h => h.elim) (fun _ _ => trivial) HB_10.out HB_10.out.size (by have := HIL.out; have := HTL.out; simp; omega) ?_
                intro v5 zz11 ho hb hg hat
                have HO_11 := Aside0.mk ho
                have HC_11 := Aside0.mk (rb_grown HC_10.out HO_10.out hg HCN.out)
                have HB_11 := Aside0.mk hb
                clear ho hb hg hat
                (refine Shut.out hK _ _ (HALL.out _ HB_11.out) (fun hHeld => ?_); clear hK K; (try simp only [Act.put, List.getElem_toArray, List.getElem_cons_zero, List.getElem_cons_succ, List.setIfInBounds_toArray, List.set_cons_zero, List.set_cons_succ]))
                refine wpAnyH_ready (rs := [9]) (by kernel_rfl) (by simp) (AllReadyH.cons rfl (fun K hK => ?_) AllReadyH.nil)
                · go_simp
                  refine (text_n (some ⟨gC, 0, none⟩) cC sb.size (bytesOf sb) _ HC_11.out (bytesOf_length sb) (by have h := HCC.out; rw [bytesOf_length] at h; exact h) (by have := HSZ.out; omega)).mono ?_
                  rintro e zz12 ⟨vx, rfl, ho, hb⟩
                  obtain ⟨AT, cT, rfl⟩ := Kd.R_slice ho
                  have HO_12 := Aside0.mk (Kd.R_below HO_11.out hb)
                  have HC_12 := Aside0.mk (Kd.C_below HC_11.out hb)
                  have HT_12 := Aside0.mk (show Ob zz12 w2.heap.size _ (textB (bytesOf sb)) from Kd.R_lower ho HB_11.out.size)
                  have HB_12 := Aside0.mk (below_step HB_11.out hb)
                  clear ho hb
                  (refine Shut.out hK _ _ (HALL.out _ HB_12.out) (fun hHeld => ?_); clear hK K; (try simp only [Act.put, List.getElem_toArray, List.getElem_cons_zero, List.getElem_cons_succ, List.setIfInBounds_toArray, List.set_cons_zero, List.set_cons_succ]))
                  refine wpAnyH_ready (rs := [10]) (by kernel_rfl) (by simp) (AllReadyH.cons rfl (fun K hK => ?_) AllReadyH.nil)
                  · refine Kd.R_append_rows_step (Kd.int .u8) (w0 := w2) w2.heap.size rfl (.tmp 21) (.tmp 25) 25 5 (.int .u8 0) 1 rfl Try.underlying25 info_u8 rfl (by decide) (by omega) _ ([k] ++ intB t ++ textB (bytesOf sa)) (textB (bytesOf sb)) _ _ _ (fun _ => True) (fun _ => False) rfl rfl HO_12.out (Kd.R_reads' HT_12.out).2.2 (fun _ _ h => h) (fun _ h => h.elim) (fun _ _ => trivial) HB_12.out HB_12.out.size (by have := HIL.out; have := HTL.out; simp; omega) ?_
                    intro v6 zz13 ho hb hg hat
                    have HO_13 := Aside0.mk ho
                    have HB_13 := Aside0.mk hb
                    clear ho hb hg hat
                    (refine Shut.out hK _ _ (HALL.out _ HB_13.out) (fun hHeld => ?_); clear hK K; (try simp only [Act.put, List.getElem_toArray, List.getElem_cons_zero, List.getElem_cons_succ, List.setIfInBounds_toArray, List.set_cons_zero, List.set_cons_succ]))
                    (refine wpAnyH_take (i := 11) (v := ?_) rfl (by kernel_rfl) (by kernel_rfl) (by kernel_rfl) (fun _ _ _ h => h) (Or.inl ⟨by rfl, ?_⟩) (by assumption) ?_; (case' refine_2 => (intro w hSw; go_simp; try with_reducible rfl)); (try simp only [Act.put, List.getElem_toArray, List.getElem_cons_zero, List.getElem_cons_succ, List.setIfInBounds_toArray, List.set_cons_zero, List.set_cons_succ]))
                    (refine wpAnyH_take (i := 12) (v := ?_) rfl (by kernel_rfl) (by kernel_rfl) (by kernel_rfl) (fun _ _ _ h => h) (Or.inl ⟨by rfl, ?_⟩) (by assumption) ?_; (case' refine_2 => (intro w hSw; go_simp; try with_reducible rfl)); (try simp only [Act.put, List.getElem_toArray, List.getElem_cons_zero, List.getElem_cons_succ, List.setIfInBounds_toArray, List.set_cons_zero, List.set_cons_succ]))
                    refine wpAnyH_done (by kernel_rfl) ?_ _
                    go_wp2_with (fail)
                    go_ret2
                    exact ⟨_, rfl, Kd.R_lower HO_13.out HB2.out.size, below_step HB2.out HB_13.out⟩
          · rw [if_pos (by rfl)]
            refine wp_bytes (.tmp 23) rfl sb rfl ?_
            have hb := bytes_below (Below.refl zz4.heap.size zz4) (Nat.le_refl _) 5 sb
            have HO_14 := Aside0.mk (Kd.R_below HO_4.out hb)
            have HA_14 := Aside0.mk (Kd.C_below HA_4.out hb)
            have HC_14 := Aside0.mk (PZ.bytes_row sb (by have := HSZ.out; omega) zz4)
            have HCC := Aside0.mk (PZ.bytes_cap sb zz4)
            have HCN := Aside0.mk (show some zz4.heap.size ≠ v4.ownBlock from fun e => Nat.lt_irrefl _ (Kd.R_lt HO_4.out _ e.symm))
            have HB_14 := Aside0.mk (below_step HB_4.out hb)
            obtain ⟨zz14, hw_⟩ : ∃ W_, Lib.bytesWorld zz4 5 sb = W_ := ⟨_, rfl⟩
            obtain ⟨gC, hg_⟩ : ∃ W_, zz4.heap.size = W_ := ⟨_, rfl⟩
            obtain ⟨cC, hc_⟩ : ∃ W_, grownCap zz4 sb.size 0 5 = W_ := ⟨_, rfl⟩
            clear hb
            rw [hw_] at HO_14 HA_14 HB_14 HC_14
            rw [hg_] at HC_14 HCN
            rw [hc_] at HCC
            rw [hw_, hg_, hc_]
            clear hw_ hg_ hc_
            (refine Shut.out hK _ _ (HALL.out _ HB_14.out) (fun hHeld => ?_); clear hK K; (try simp only [Act.put, List.getElem_toArray, List.getElem_cons_zero, List.getElem_cons_succ, List.setIfInBounds_toArray, List.set_cons_zero, List.set_cons_succ]))
            refine wpAnyH_ready (rs := [4]) (by kernel_rfl) (by simp) (AllReadyH.cons rfl (fun K hK => ?_) AllReadyH.nil)
            · go_simp
              refine (text_n (some ⟨gA, 0, none⟩) cA sa.size (bytesOf sa) _ HA_14.out (bytesOf_length sa) (by have h := HAC.out; rw [bytesOf_length] at h; exact h) (by have := HSZ.out; omega)).mono ?_
              rintro e zz15 ⟨vx, rfl, ho, hb⟩
              obtain ⟨AT, cT, rfl⟩ := Kd.R_slice ho
              have HO_15 := Aside0.mk (Kd.R_below HO_14.out hb)
              have HA_15 := Aside0.mk (Kd.C_below HA_14.out hb)
              have HC_15 := Aside0.mk (Kd.C_below HC_14.out hb)
              have HT_15 := Aside0.mk (show Ob zz15 w2.heap.size _ (textB (bytesOf sa)) from Kd.R_lower ho HB_14.out.size)
              have HB_15 := Aside0.mk (below_step HB_14.out hb)
              clear ho hb
              (refine Shut.out hK _ _ (HALL.out _ HB_15.out) (fun hHeld => ?_); clear hK K; (try simp only [Act.put, List.getElem_toArray, List.getElem_cons_zero, List.getElem_cons_succ, List.setIfInBounds_toArray, List.set_cons_zero, List.set_cons_succ]))
              refine wpAnyH_ready (rs := [5]) (by kernel_rfl) (by simp) (AllReadyH.cons rfl (fun K hK => ?_) AllReadyH.nil)
              · refine Kd.R_append_rows_step (Kd.int .u8) (w0 := w2) w2.heap.size rfl (.tmp 16) (.tmp 20) 25 5 (.int .u8 0) 1 rfl Try.underlying25 info_u8 rfl (by decide) (by omega) _ ([k] ++ intB t) (textB (bytesOf sa)) _ _ _ (fun _ => True) (fun _ => False) rfl rfl HO_15.out (Kd.R_reads' HT_15.out).2.2 (fun _ _ h => h) (fun _ h => h.elim) (fun _ _ => trivial) HB_15.out HB_15.out.size (by have := HIL.out; have := HTL.out; simp; omega) ?_
                intro v5 zz16 ho hb hg hat
                have HO_16 := Aside0.mk ho
                have HC_16 := Aside0.mk (rb_grown HC_15.out HO_15.out hg HCN.out)
                have HB_16 := Aside0.mk hb
                clear ho hb hg hat
                (refine Shut.out hK _ _ (HALL.out _ HB_16.out) (fun hHeld => ?_); clear hK K; (try simp only [Act.put, List.getElem_toArray, List.getElem_cons_zero, List.getElem_cons_succ, List.setIfInBounds_toArray, List.set_cons_zero, List.set_cons_succ]))
                refine wpAnyH_ready (rs := [9]) (by kernel_rfl) (by simp) (AllReadyH.cons rfl (fun K hK => ?_) AllReadyH.nil)
                · go_simp
                  refine (text_n (some ⟨gC, 0, none⟩) cC sb.size (bytesOf sb) _ HC_16.out (bytesOf_length sb) (by have h := HCC.out; rw [bytesOf_length] at h; exact h) (by have := HSZ.out; omega)).mono ?_
                  rintro e zz17 ⟨vx, rfl, ho, hb⟩
                  obtain ⟨AT, cT, rfl⟩ := Kd.R_slice ho
                  have HO_17 := Aside0.mk (Kd.R_below HO_16.out hb)
                  have HC_17 := Aside0.mk (Kd.C_below HC_16.out hb)
                  have HT_17 := Aside0.mk (show Ob zz17 w2.heap.size _ (textB (bytesOf sb)) from Kd.R_lower ho HB_16.out.size)
                  have HB_17 := Aside0.mk (below_step HB_16.out hb)
                  clear ho hb
                  (refine Shut.out hK _ _ (HALL.out _ HB_17.out) (fun hHeld => ?_); clear hK K; (try simp only [Act.put, List.getElem_toArray, List.getElem_cons_zero, List.getElem_cons_succ, List.setIfInBounds_toArray, List.set_cons_zero, List.set_cons_succ]))
                  refine wpAnyH_ready (rs := [10]) (by kernel_rfl) (by simp) (AllReadyH.cons rfl (fun K hK => ?_) AllReadyH.nil)
                  · refine Kd.R_append_rows_step (Kd.int .u8) (w0 := w2) w2.heap.size rfl (.tmp 21) (.tmp 25) 25 5 (.int .u8 0) 1 rfl Try.underlying25 info_u8 rfl (by decide) (by omega) _ ([k] ++ intB t ++ textB (bytesOf sa)) (textB (bytesOf sb)) _ _ _ (fun _ => True) (fun _ => False) rfl rfl HO_17.out (Kd.R_reads' HT_17.out).2.2 (fun _ _ h => h) (fun _ h => h.elim) (fun _ _ => trivial) HB_17.out HB_17.out.size (by have := HIL.out; have := HTL.out; simp; omega) ?_
                    intro v6 zz18 ho hb hg hat
                    have HO_18 := Aside0.mk ho
                    have HB_18 := Aside0.mk hb
                    clear ho hb hg hat
                    (refine Shut.out hK _ _ (HALL.out _ HB_18.out) (fun hHeld => ?_); clear hK K; (try simp only [Act.put, List.getElem_toArray, List.getElem_cons_zero, List.getElem_cons_succ, List.setIfInBounds_toArray, List.set_cons_zero, List.set_cons_succ]))
                    (refine wpAnyH_take (i := 11) (v := ?_) rfl (by kernel_rfl) (by kernel_rfl) (by kernel_rfl) (fun _ _ _ h => h) (Or.inl ⟨by rfl, ?_⟩) (by assumption) ?_; (case' refine_2 => (intro w hSw; go_simp; try with_reducible rfl)); (try simp only [Act.put, List.getElem_toArray, List.getElem_cons_zero, List.getElem_cons_succ, List.setIfInBounds_toArray, List.set_cons_zero, List.set_cons_succ]))
                    (refine wpAnyH_take (i := 12) (v := ?_) rfl (by kernel_rfl) (by kernel_rfl) (by kernel_rfl) (fun _ _ _ h => h) (Or.inl ⟨by rfl, ?_⟩) (by assumption) ?_; (case' refine_2 => (intro w hSw; go_simp; try with_reducible rfl)); (try simp only [Act.put, List.getElem_toArray, List.getElem_cons_zero, List.getElem_cons_succ, List.setIfInBounds_toArray, List.set_cons_zero, List.set_cons_succ]))
                    refine wpAnyH_done (by kernel_rfl) ?_ _
                    go_wp2_with (fail)
                    go_ret2
                    exact ⟨_, rfl, Kd.R_lower HO_18.out HB2.out.size, below_step HB2.out HB_18.out⟩
        · rw [if_pos (by rfl)]
          refine wp_bytes (.tmp 23) rfl sb rfl ?_
          have hb := bytes_below (Below.refl zz3.drew.heap.size zz3.drew) (Nat.le_refl _) 5 sb
          have HO_19 := Aside0.mk (Kd.R_below HOd.out hb)
          have HC_19 := Aside0.mk (PZ.bytes_row sb (by have := HSZ.out; omega) zz3.drew)
          have HCC := Aside0.mk (PZ.bytes_cap sb zz3.drew)
          have HCN := Aside0.mk (show some zz3.drew.heap.size ≠ v4.ownBlock from fun e => Nat.lt_irrefl _ (Kd.R_lt HOd.out _ e.symm))
          have HB_19 := Aside0.mk (below_step HBd.out hb)
          obtain ⟨zz19, hw_⟩ : ∃ W_, Lib.bytesWorld zz3.drew 5 sb = W_ := ⟨_, rfl⟩
          obtain ⟨gC, hg_⟩ : ∃ W_, zz3.drew.heap.size = W_ := ⟨_, rfl⟩
          obtain ⟨cC, hc_⟩ : ∃ W_, grownCap zz3.drew sb.size 0 5 = W_ := ⟨_, rfl⟩
          clear hb
          rw [hw_] at HO_19 HB_19 HC_19
          rw [hg_] at HC_19 HCN
          rw [hc_] at HCC
          rw [hw_, hg_, hc_]
          clear hw_ hg_ hc_
          (refine Shut.out hK _ _ (HALL.out _ HB_19.out) (fun hHeld => ?_); clear hK K; (try simp only [Act.put, List.getElem_toArray, List.getElem_cons_zero, List.getElem_cons_succ, List.setIfInBounds_toArray, List.set_cons_zero, List.set_cons_succ]))
          refine wpAnyH_ready (rs := [3]) (by kernel_rfl) (by simp) (AllReadyH.cons rfl (fun K hK => ?_) AllReadyH.nil)
          · rw [if_pos (by rfl)]
            refine wp_bytes (.tmp 18) rfl sa rfl ?_
            have hb := bytes_below (Below.refl zz19.heap.size zz19) (Nat.le_refl _) 5 sa
            have HO_20 := Aside0.mk (Kd.R_below HO_19.out hb)
            have HC_20 := Aside0.mk (Kd.C_below HC_19.out hb)
            have HA_20 := Aside0.mk (PZ.bytes_row sa (by have := HSZ.out; omega) zz19)
            have HAC := Aside0.mk (PZ.bytes_cap sa zz19)
            have HB_20 := Aside0.mk (below_step HB_19.out hb)
            obtain ⟨zz20, hw_⟩ : ∃ W_, Lib.bytesWorld zz19 5 sa = W_ := ⟨_, rfl⟩
            obtain ⟨gA, hg_⟩ : ∃ W_, zz19.heap.size = W_ := ⟨_, rfl⟩
            obtain ⟨cA, hc_⟩ : ∃ W_, grownCap zz19 sa.size 0 5 = W_ := ⟨_, rfl⟩
            clear hb
            rw [hw_] at HO_20 HC_20 HB_20 HA_20
            rw [hg_] at HA_20
            rw [hc_] at HAC
            rw [hw_, hg_, hc_]
            clear hw_ hg_ hc_
            (refine Shut.out hK _ _ (HALL.out _ HB_20.out) (fun hHeld => ?_); clear hK K; (try simp only [Act.put, List.getElem_toArray, List.getElem_cons_zero, List.getElem_cons_succ, List.setIfInBounds_toArray, List.set_cons_zero, List.set_cons_succ]))
            refine wpAnyH_ready (rs := [4]) (by kernel_rfl) (by simp) (AllReadyH.cons rfl (fun K hK => ?_) AllReadyH.nil)
            · go_simp
              refine (text_n (some ⟨gA, 0, none⟩) cA sa.size (bytesOf sa) _ HA_20.out (bytesOf_length sa) (by have h := HAC.out; rw [bytesOf_length] at h; exact h) (by have := HSZ.out; omega)).mono ?_
              rintro e zz21 ⟨vx, rfl, ho, hb⟩
              obtain ⟨AT, cT, rfl⟩ := Kd.R_slice ho
              have HO_21 := Aside0.mk (Kd.R_below HO_20.out hb)
              have HA_21 := Aside0.mk (Kd.C_below HA_20.out hb)
              have HC_21 := Aside0.mk (Kd.C_below HC_20.out hb)
              have HT_21 := Aside0.mk (show Ob zz21 w2.heap.size _ (textB (bytesOf sa)) from Kd.R_lower ho HB_20.out.size)
              have HB_21 := Aside0.mk (below_step HB_20.out hb)
              clear ho hb
              (refine Shut.out hK _ _ (HALL.out _ HB_21.out) (fun hHeld => ?_); clear hK K; (try simp only [Act.put, List.getElem_toArray, List.getElem_cons_zero, List.getElem_cons_succ, List.setIfInBounds_toArray, List.set_cons_zero, List.set_cons_succ]))
              refine wpAnyH_ready (rs := [5]) (by kernel_rfl) (by simp) (AllReadyH.cons rfl (fun K hK => ?_) AllReadyH.nil)
              · refine Kd.R_append_rows_step (Kd.int .u8) (w0 := w2) w2.heap.size rfl (.tmp 16) (.tmp 20) 25 5 (.int .u8 0) 1 rfl Try.underlying25 info_u8 rfl (by decide) (by omega) _ ([k] ++ intB t) (textB (bytesOf sa)) _ _ _ (fun _ => True) (fun _ => False) rfl rfl HO_21.out (Kd.R_reads' HT_21.out).2.2 (fun _ _ h => h) (fun _ h => h.elim) (fun _ _ => trivial) HB_21.out HB_21.out.size (by have := HIL.out; have := HTL.out; simp; omega) ?_
                intro v5 zz22 ho hb hg hat
                have HO_22 := Aside0.mk ho
                have HC_22 := Aside0.mk (rb_grown HC_21.out HO_21.out hg HCN.out)
                have HB_22 := Aside0.mk hb
                clear ho hb hg hat
                (refine Shut.out hK _ _ (HALL.out _ HB_22.out) (fun hHeld => ?_); clear hK K; (try simp only [Act.put, List.getElem_toArray, List.getElem_cons_zero, List.getElem_cons_succ, List.setIfInBounds_toArray, List.set_cons_zero, List.set_cons_succ]))
                refine wpAnyH_ready (rs := [9]) (by kernel_rfl) (by simp) (AllReadyH.cons rfl (fun K hK => ?_) AllReadyH.nil)
                · go_simp
                  refine (text_n (some ⟨gC, 0, none⟩) cC sb.size (bytesOf sb) _ HC_22.out (bytesOf_length sb) (by have h := HCC.out; rw [bytesOf_length] at h; exact h) (by have := HSZ.out; omega)).mono ?_
                  rintro e zz23 ⟨vx, rfl, ho, hb⟩
                  obtain ⟨AT, cT, rfl⟩ := Kd.R_slice ho
                  have HO_23 := Aside0.mk (Kd.R_below HO_22.out hb)
                  have HC_23 := Aside0.mk (Kd.C_below HC_22.out hb)
                  have HT_23 := Aside0.mk (show Ob zz23 w2.heap.size _ (textB (bytesOf sb)) from Kd.R_lower ho HB_22.out.size)
                  have HB_23 := Aside0.mk (below_step HB_22.out hb)
                  clear ho hb
                  (refine Shut.out hK _ _ (HALL.out _ HB_23.out) (fun hHeld => ?_); clear hK K; (try simp only [Act.put, List.getElem_toArray, List.getElem_cons_zero, List.getElem_cons_succ, List.setIfInBounds_toArray, List.set_cons_zero, List.set_cons_succ]))
                  refine wpAnyH_ready (rs := [10]) (by kernel_rfl) (by simp) (AllReadyH.cons rfl (fun K hK => ?_) AllReadyH.nil)
                  · refine Kd.R_append_rows_step (Kd.int .u8) (w0 := w2) w2.heap.size rfl (.tmp 21) (.tmp 25) 25 5 (.int .u8 0) 1 rfl Try.underlying25 info_u8 rfl (by decide) (by omega) _ ([k] ++ intB t ++ textB (bytesOf sa)) (textB (bytesOf sb)) _ _ _ (fun _ => True) (fun _ => False) rfl rfl HO_23.out (Kd.R_reads' HT_23.out).2.2 (fun _ _ h => h) (fun _ h => h.elim) (fun _ _ => trivial) HB_23.out HB_23.out.size (by have := HIL.out; have := HTL.out; simp; omega) ?_
                    intro v6 zz24 ho hb hg hat
                    have HO_24 := Aside0.mk ho
                    have HB_24 := Aside0.mk hb
                    clear ho hb hg hat
                    (refine Shut.out hK _ _ (HALL.out _ HB_24.out) (fun hHeld => ?_); clear hK K; (try simp only [Act.put, List.getElem_toArray, List.getElem_cons_zero, List.getElem_cons_succ, List.setIfInBounds_toArray, List.set_cons_zero, List.set_cons_succ]))
                    (refine wpAnyH_take (i := 11) (v := ?_) rfl (by kernel_rfl) (by kernel_rfl) (by kernel_rfl) (fun _ _ _ h => h) (Or.inl ⟨by rfl, ?_⟩) (by assumption) ?_; (case' refine_2 => (intro w hSw; go_simp; try with_reducible rfl)); (try simp only [Act.put, List.getElem_toArray, List.getElem_cons_zero, List.getElem_cons_succ, List.setIfInBounds_toArray, List.set_cons_zero, List.set_cons_succ]))
                    (refine wpAnyH_take (i := 12) (v := ?_) rfl (by kernel_rfl) (by kernel_rfl) (by kernel_rfl) (fun _ _ _ h => h) (Or.inl ⟨by rfl, ?_⟩) (by assumption) ?_; (case' refine_2 => (intro w hSw; go_simp; try with_reducible rfl)); (try simp only [Act.put, List.getElem_toArray, List.getElem_cons_zero, List.getElem_cons_succ, List.setIfInBounds_toArray, List.set_cons_zero, List.set_cons_succ]))
                    refine wpAnyH_done (by kernel_rfl) ?_ _
                    go_wp2_with (fail)
                    go_ret2
                    exact ⟨_, rfl, Kd.R_lower HO_24.out HB2.out.size, below_step HB2.out HB_24.out⟩
  · go_simp
    refine (rint_c t _).mono ?_
    rintro e zz25 ⟨vx, rfl, ho, hb⟩
    obtain ⟨AI, cI, rfl⟩ := Kd.R_slice ho
    have HI_25 := Aside0.mk (show Ob zz25 w2.heap.size _ (intB t) from Kd.R_lower ho HBs.out.size)
    have HB_25 := Aside0.mk (below_step HBs.out hb)
    clear ho hb
    (refine Shut.out hK _ _ (HALL.out _ HB_25.out) (fun hHeld => ?_); clear hK K; (try simp only [Act.put, List.getElem_toArray, List.getElem_cons_zero, List.getElem_cons_succ, List.setIfInBounds_toArray, List.set_cons_zero, List.set_cons_succ]))
    refine wpAnyH_ready (rs := [3]) (by kernel_rfl) (by simp) (AllReadyH.cons rfl (fun K hK => ?_) AllReadyH.nil)
    · refine Kd.R_lit_step (Kd.int .u8) (w0 := w2) w2.heap.size 5 rfl (N := 11) rfl (xs := [k]) (inner := [.int .u8 k]) (ok := fun _ => True) (okp := fun _ => True) (by first | (go_simp; done) | (go_simp; rfl)) ⟨rfl, fun j p hj => ?_⟩ (fun _ hk => hk) trivial HB_25.out HB_25.out.size (by simp) ?_
      · match j, hj with
        | 0, hj => cases hj; rfl
      intro vl zz26 ho hb hg hat
      have HX_26 := Aside0.mk (show Ob zz26 w2.heap.size vl [k] from ho)
      have HB_26 := Aside0.mk hb
      have HI_26 := Aside0.mk (Kd.R_grown HI_25.out hg (fun k _ h => by cases h))
      clear ho hb hg hat
      (refine Shut.out hK _ _ (HALL.out _ HB_26.out) (fun hHeld => ?_); clear hK K; (try simp only [Act.put, List.getElem_toArray, List.getElem_cons_zero, List.getElem_cons_succ, List.setIfInBounds_toArray, List.set_cons_zero, List.set_cons_succ]))
      refine wpAnyH_ready (rs := [7]) (by kernel_rfl) (by simp) (AllReadyH.cons rfl (fun K hK => ?_) AllReadyH.nil)
      · refine Kd.R_append_rows_step (Kd.int .u8) (w0 := w2) w2.heap.size rfl (.tmp 11) (.tmp 14) 25 5 (.int .u8 0) 1 rfl Try.underlying25 info_u8 rfl (by decide) (by omega) _ [k] (intB t) _ _ _ (fun _ => True) (fun _ => False) rfl rfl HX_26.out (Kd.R_reads' HI_26.out).2.2 (fun _ _ h => h) (fun _ h => h.elim) (fun _ _ => trivial) HB_26.out HB_26.out.size (by have := HIL.out; simp; omega) ?_
        intro v4 zz27 ho hb hg hat
        have HO_27 := Aside0.mk (show Ob zz27 w2.heap.size v4 ([k] ++ intB t) from ho)
        have HB_27 := Aside0.mk hb
        clear ho hb hg hat
        (refine Shut.out hK _ _ (HALL.out _ HB_27.out) (fun hHeld => ?_); clear hK K; (try simp only [Act.put, List.getElem_toArray, List.getElem_cons_zero, List.getElem_cons_succ, List.setIfInBounds_toArray, List.set_cons_zero, List.set_cons_succ]))
        (refine wpAnyH_take (i := 8) (v := ?_) rfl (by kernel_rfl) (by kernel_rfl) (by kernel_rfl) (fun _ _ _ h => h) (Or.inl ⟨by rfl, ?_⟩) (by assumption) ?_; (case' refine_2 => (intro w hSw; go_simp; try with_reducible rfl)); (try simp only [Act.put, List.getElem_toArray, List.getElem_cons_zero, List.getElem_cons_succ, List.setIfInBounds_toArray, List.set_cons_zero, List.set_cons_succ]))
        refine wpAnyH_done (by kernel_rfl) ?_ _
        clear hHeld
        go_wp2_with (fail)
        have HOd := Aside0.mk (Kd.R_drew HO_27.out)
        have HBd := Aside0.mk (below_drew1 HB_27.out)
        refine wp_region_held_drew (S := fun V => V.cell? ⟨w.heap.size, 0, none⟩ = some (.int .i64 k) ∧ V.cell? ⟨w.heap.size, 1, none⟩ = some (.int .i64 t) ∧ V.cell? ⟨w.heap.size, 2, none⟩ = some (.string sa) ∧ V.cell? ⟨w.heap.size, 3, none⟩ = some (.string sb)) (by kernel_rfl) (HALL.out _ HBd.out) (fun hHeld => ?_)
        (refine wpAnyH_take (i := 0) (v := ?_) rfl (by kernel_rfl) (by kernel_rfl) (by kernel_rfl) (fun _ _ _ h => h) (Or.inl ⟨by rfl, ?_⟩) (by assumption) ?_; (case' refine_2 => (intro w hSw; go_simp; try with_reducible rfl)); (try simp only [Act.put, List.getElem_toArray, List.getElem_cons_zero, List.getElem_cons_succ, List.setIfInBounds_toArray, List.set_cons_zero, List.set_cons_succ]))
        (refine wpAnyH_take (i := 1) (v := ?_) rfl (by kernel_rfl) (by kernel_rfl) (by kernel_rfl) (fun _ _ _ h => h) (Or.inl ⟨by rfl, ?_⟩) (by assumption) ?_; (case' refine_2 => (intro w hSw; go_simp; try with_reducible rfl)); (try simp only [Act.put, List.getElem_toArray, List.getElem_cons_zero, List.getElem_cons_succ, List.setIfInBounds_toArray, List.set_cons_zero, List.set_cons_succ]))
        (refine wpAnyH_take (i := 2) (v := ?_) rfl (by kernel_rfl) (by kernel_rfl) (by kernel_rfl) (fun _ _ _ h => h) (Or.inl ⟨by rfl, ?_⟩) (by assumption) ?_; (case' refine_2 => (intro w hSw; go_simp; try with_reducible rfl)); (try simp only [Act.put, List.getElem_toArray, List.getElem_cons_zero, List.getElem_cons_succ, List.setIfInBounds_toArray, List.set_cons_zero, List.set_cons_succ]))
        (refine wpAnyH_take (i := 6) (v := ?_) rfl (by kernel_rfl) (by kernel_rfl) (by kernel_rfl) (fun _ _ _ h => h) (Or.inl ⟨by rfl, ?_⟩) (by assumption) ?_; (case' refine_2 => (intro w hSw; go_simp; try with_reducible rfl)); (try simp only [Act.put, List.getElem_toArray, List.getElem_cons_zero, List.getElem_cons_succ, List.setIfInBounds_toArray, List.set_cons_zero, List.set_cons_succ]))
        (refine wpAnyH_take (i := 7) (v := ?_) rfl (by kernel_rfl) (by kernel_rfl) (by kernel_rfl) (fun _ _ _ h => h) (Or.inl ⟨by rfl, ?_⟩) (by assumption) ?_; (case' refine_2 => (intro w hSw; go_simp; try with_reducible rfl)); (try simp only [Act.put, List.getElem_toArray, List.getElem_cons_zero, List.getElem_cons_succ, List.setIfInBounds_toArray, List.set_cons_zero, List.set_cons_succ]))
        refine wpAnyH_ready (rs := [3, 8]) (by kernel_rfl) (by simp) (AllReadyH.cons rfl (fun K hK => ?_) (AllReadyH.cons rfl (fun K hK => ?_) AllReadyH.nil))
        · rw [if_pos (by rfl)]
          refine wp_bytes (.tmp 18) rfl sa rfl ?_
          have hb := bytes_below (Below.refl zz27.drew.heap.size zz27.drew) (Nat.le_refl _) 5 sa
          have HO_28 := Aside0.mk (Kd.R_below HOd.out hb)
          have HA_28 := Aside0.mk (PZ.bytes_row sa (by have := HSZ.out; omega) zz27.drew)
          have HAC := Aside0.mk (PZ.bytes_cap sa zz27.drew)
          have HB_28 := Aside0.mk (below_step HBd.out hb)
          obtain ⟨zz28, hw_⟩ : ∃ W_, Lib.bytesWorld zz27.drew 5 sa = W_ := ⟨_, rfl⟩
          obtain ⟨gA, hg_⟩ : ∃ W_, zz27.drew.heap.size = W_ := ⟨_, rfl⟩
          obtain ⟨cA, hc_⟩ : ∃ W_, grownCap zz27.drew sa.size 0 5 = W_ := ⟨_, rfl⟩
          clear hb
          rw [hw_] at HO_28 HB_28 HA_28
          rw [hg_] at HA_28
          rw [hc_] at HAC
          rw [hw_, hg_, hc_]
          clear hw_ hg_ hc_
          (refine Shut.out hK _ _ (HALL.out _ HB_28.out) (fun hHeld => ?_); clear hK K; (try simp only [Act.put, List.getElem_toArray, List.getElem_cons_zero, List.getElem_cons_succ, List.setIfInBounds_toArray, List.set_cons_zero, List.set_cons_succ]))
          refine wpAnyH_ready (rs := [4, 8]) (by kernel_rfl) (by simp) (AllReadyH.cons rfl (fun K hK => ?_) (AllReadyH.cons rfl (fun K hK => ?_) AllReadyH.nil))
          · go_simp
            refine (text_n (some ⟨gA, 0, none⟩) cA sa.size (bytesOf sa) _ HA_28.out (bytesOf_length sa) (by have h := HAC.out; rw [bytesOf_length] at h; exact h) (by have := HSZ.out; omega)).mono ?_
            rintro e zz29 ⟨vx, rfl, ho, hb⟩
            obtain ⟨AT, cT, rfl⟩ := Kd.R_slice ho
            have HO_29 := Aside0.mk (Kd.R_below HO_28.out hb)
            have HA_29 := Aside0.mk (Kd.C_below HA_28.out hb)
            have HT_29 := Aside0.mk (show Ob zz29 w2.heap.size _ (textB (bytesOf sa)) from Kd.R_lower ho HB_28.out.size)
            have HB_29 := Aside0.mk (below_step HB_28.out hb)
            clear ho hb
            (refine Shut.out hK _ _ (HALL.out _ HB_29.out) (fun hHeld => ?_); clear hK K; (try simp only [Act.put, List.getElem_toArray, List.getElem_cons_zero, List.getElem_cons_succ, List.setIfInBounds_toArray, List.set_cons_zero, List.set_cons_succ]))
            refine wpAnyH_ready (rs := [5, 8]) (by kernel_rfl) (by simp) (AllReadyH.cons rfl (fun K hK => ?_) (AllReadyH.cons rfl (fun K hK => ?_) AllReadyH.nil))
            · refine Kd.R_append_rows_step (Kd.int .u8) (w0 := w2) w2.heap.size rfl (.tmp 16) (.tmp 20) 25 5 (.int .u8 0) 1 rfl Try.underlying25 info_u8 rfl (by decide) (by omega) _ ([k] ++ intB t) (textB (bytesOf sa)) _ _ _ (fun _ => True) (fun _ => False) rfl rfl HO_29.out (Kd.R_reads' HT_29.out).2.2 (fun _ _ h => h) (fun _ h => h.elim) (fun _ _ => trivial) HB_29.out HB_29.out.size (by have := HIL.out; have := HTL.out; simp; omega) ?_
              intro v5 zz30 ho hb hg hat
              have HO_30 := Aside0.mk ho
              have HB_30 := Aside0.mk hb
              clear ho hb hg hat
              (refine Shut.out hK _ _ (HALL.out _ HB_30.out) (fun hHeld => ?_); clear hK K; (try simp only [Act.put, List.getElem_toArray, List.getElem_cons_zero, List.getElem_cons_succ, List.setIfInBounds_toArray, List.set_cons_zero, List.set_cons_succ]))
              refine wpAnyH_ready (rs := [8]) (by kernel_rfl) (by simp) (AllReadyH.cons rfl (fun K hK => ?_) AllReadyH.nil)
              · rw [if_pos (by rfl)]
                refine wp_bytes (.tmp 23) rfl sb rfl ?_
                have hb := bytes_below (Below.refl zz30.heap.size zz30) (Nat.le_refl _) 5 sb
                have HO_31 := Aside0.mk (Kd.R_below HO_30.out hb)
                have HC_31 := Aside0.mk (PZ.bytes_row sb (by have := HSZ.out; omega) zz30)
                have HCC := Aside0.mk (PZ.bytes_cap sb zz30)
                have HB_31 := Aside0.mk (below_step HB_30.out hb)
                obtain ⟨zz31, hw_⟩ : ∃ W_, Lib.bytesWorld zz30 5 sb = W_ := ⟨_, rfl⟩
                obtain ⟨gC, hg_⟩ : ∃ W_, zz30.heap.size = W_ := ⟨_, rfl⟩
                obtain ⟨cC, hc_⟩ : ∃ W_, grownCap zz30 sb.size 0 5 = W_ := ⟨_, rfl⟩
                clear hb
                rw [hw_] at HO_31 HB_31 HC_31
                rw [hg_] at HC_31
                rw [hc_] at HCC
                rw [hw_, hg_, hc_]
                clear hw_ hg_ hc_
                (refine Shut.out hK _ _ (HALL.out _ HB_31.out) (fun hHeld => ?_); clear hK K; (try simp only [Act.put, List.getElem_toArray, List.getElem_cons_zero, List.getElem_cons_succ, List.setIfInBounds_toArray, List.set_cons_zero, List.set_cons_succ]))
                refine wpAnyH_ready (rs := [9]) (by kernel_rfl) (by simp) (AllReadyH.cons rfl (fun K hK => ?_) AllReadyH.nil)
                · go_simp
                  refine (text_n (some ⟨gC, 0, none⟩) cC sb.size (bytesOf sb) _ HC_31.out (bytesOf_length sb) (by have h := HCC.out; rw [bytesOf_length] at h; exact h) (by have := HSZ.out; omega)).mono ?_
                  rintro e zz32 ⟨vx, rfl, ho, hb⟩
                  obtain ⟨AT, cT, rfl⟩ := Kd.R_slice ho
                  have HO_32 := Aside0.mk (Kd.R_below HO_31.out hb)
                  have HC_32 := Aside0.mk (Kd.C_below HC_31.out hb)
                  have HT_32 := Aside0.mk (show Ob zz32 w2.heap.size _ (textB (bytesOf sb)) from Kd.R_lower ho HB_31.out.size)
                  have HB_32 := Aside0.mk (below_step HB_31.out hb)
                  clear ho hb
                  (refine Shut.out hK _ _ (HALL.out _ HB_32.out) (fun hHeld => ?_); clear hK K; (try simp only [Act.put, List.getElem_toArray, List.getElem_cons_zero, List.getElem_cons_succ, List.setIfInBounds_toArray, List.set_cons_zero, List.set_cons_succ]))
                  refine wpAnyH_ready (rs := [10]) (by kernel_rfl) (by simp) (AllReadyH.cons rfl (fun K hK => ?_) AllReadyH.nil)
                  · refine Kd.R_append_rows_step (Kd.int .u8) (w0 := w2) w2.heap.size rfl (.tmp 21) (.tmp 25) 25 5 (.int .u8 0) 1 rfl Try.underlying25 info_u8 rfl (by decide) (by omega) _ ([k] ++ intB t ++ textB (bytesOf sa)) (textB (bytesOf sb)) _ _ _ (fun _ => True) (fun _ => False) rfl rfl HO_32.out (Kd.R_reads' HT_32.out).2.2 (fun _ _ h => h) (fun _ h => h.elim) (fun _ _ => trivial) HB_32.out HB_32.out.size (by have := HIL.out; have := HTL.out; simp; omega) ?_
                    intro v6 zz33 ho hb hg hat
                    have HO_33 := Aside0.mk ho
                    have HB_33 := Aside0.mk hb
                    clear ho hb hg hat
                    (refine Shut.out hK _ _ (HALL.out _ HB_33.out) (fun hHeld => ?_); clear hK K; (try simp only [Act.put, List.getElem_toArray, List.getElem_cons_zero, List.getElem_cons_succ, List.setIfInBounds_toArray, List.set_cons_zero, List.set_cons_succ]))
                    (refine wpAnyH_take (i := 11) (v := ?_) rfl (by kernel_rfl) (by kernel_rfl) (by kernel_rfl) (fun _ _ _ h => h) (Or.inl ⟨by rfl, ?_⟩) (by assumption) ?_; (case' refine_2 => (intro w hSw; go_simp; try with_reducible rfl)); (try simp only [Act.put, List.getElem_toArray, List.getElem_cons_zero, List.getElem_cons_succ, List.setIfInBounds_toArray, List.set_cons_zero, List.set_cons_succ]))
                    (refine wpAnyH_take (i := 12) (v := ?_) rfl (by kernel_rfl) (by kernel_rfl) (by kernel_rfl) (fun _ _ _ h => h) (Or.inl ⟨by rfl, ?_⟩) (by assumption) ?_; (case' refine_2 => (intro w hSw; go_simp; try with_reducible rfl)); (try simp only [Act.put, List.getElem_toArray, List.getElem_cons_zero, List.getElem_cons_succ, List.setIfInBounds_toArray, List.set_cons_zero, List.set_cons_succ]))
                    refine wpAnyH_done (by kernel_rfl) ?_ _
                    go_wp2_with (fail)
                    go_ret2
                    exact ⟨_, rfl, Kd.R_lower HO_33.out HB2.out.size, below_step HB2.out HB_33.out⟩
            · rw [if_pos (by rfl)]
              refine wp_bytes (.tmp 23) rfl sb rfl ?_
              have hb := bytes_below (Below.refl zz29.heap.size zz29) (Nat.le_refl _) 5 sb
              have HO_34 := Aside0.mk (Kd.R_below HO_29.out hb)
              have HA_34 := Aside0.mk (Kd.C_below HA_29.out hb)
              have HT_34 := Aside0.mk (Kd.R_below HT_29.out hb)
              have HC_34 := Aside0.mk (PZ.bytes_row sb (by have := HSZ.out; omega) zz29)
              have HCC := Aside0.mk (PZ.bytes_cap sb zz29)
              have HCN := Aside0.mk (show some zz29.heap.size ≠ v4.ownBlock from fun e => Nat.lt_irrefl _ (Kd.R_lt HO_29.out _ e.symm))
              have HB_34 := Aside0.mk (below_step HB_29.out hb)
              obtain ⟨zz34, hw_⟩ : ∃ W_, Lib.bytesWorld zz29 5 sb = W_ := ⟨_, rfl⟩
              obtain ⟨gC, hg_⟩ : ∃ W_, zz29.heap.size = W_ := ⟨_, rfl⟩
              obtain ⟨cC, hc_⟩ : ∃ W_, grownCap zz29 sb.size 0 5 = W_ := ⟨_, rfl⟩
              clear hb
              rw [hw_] at HO_34 HA_34 HT_34 HB_34 HC_34
              rw [hg_] at HC_34 HCN
              rw [hc_] at HCC
              rw [hw_, hg_, hc_]
              clear hw_ hg_ hc_
              (refine Shut.out hK _ _ (HALL.out _ HB_34.out) (fun hHeld => ?_); clear hK K; (try simp only [Act.put, List.getElem_toArray, List.getElem_cons_zero, List.getElem_cons_succ, List.setIfInBounds_toArray, List.set_cons_zero, List.set_cons_succ]))
              refine wpAnyH_ready (rs := [5]) (by kernel_rfl) (by simp) (AllReadyH.cons rfl (fun K hK => ?_) AllReadyH.nil)
              · refine Kd.R_append_rows_step (Kd.int .u8) (w0 := w2) w2.heap.size rfl (.tmp 16) (.tmp 20) 25 5 (.int .u8 0) 1 rfl Try.underlying25 info_u8 rfl (by decide) (by omega) _ ([k] ++ intB t) (textB (bytesOf sa)) _ _ _ (fun _ => True) (fun _ => False) rfl rfl HO_34.out (Kd.R_reads' HT_34.out).2.2 (fun _ _ h => h) (fun _ h => h.elim) (fun _ _ => trivial) HB_34.out HB_34.out.size (by have := HIL.out; have := HTL.out; simp; omega) ?_
                intro v5 zz35 ho hb hg hat
                have HO_35 := Aside0.mk ho
                have HC_35 := Aside0.mk (rb_grown HC_34.out HO_34.out hg HCN.out)
                have HB_35 := Aside0.mk hb
                clear ho hb hg hat
                (refine Shut.out hK _ _ (HALL.out _ HB_35.out) (fun hHeld => ?_); clear hK K; (try simp only [Act.put, List.getElem_toArray, List.getElem_cons_zero, List.getElem_cons_succ, List.setIfInBounds_toArray, List.set_cons_zero, List.set_cons_succ]))
                refine wpAnyH_ready (rs := [9]) (by kernel_rfl) (by simp) (AllReadyH.cons rfl (fun K hK => ?_) AllReadyH.nil)
                · go_simp
                  refine (text_n (some ⟨gC, 0, none⟩) cC sb.size (bytesOf sb) _ HC_35.out (bytesOf_length sb) (by have h := HCC.out; rw [bytesOf_length] at h; exact h) (by have := HSZ.out; omega)).mono ?_
                  rintro e zz36 ⟨vx, rfl, ho, hb⟩
                  obtain ⟨AT, cT, rfl⟩ := Kd.R_slice ho
                  have HO_36 := Aside0.mk (Kd.R_below HO_35.out hb)
                  have HC_36 := Aside0.mk (Kd.C_below HC_35.out hb)
                  have HT_36 := Aside0.mk (show Ob zz36 w2.heap.size _ (textB (bytesOf sb)) from Kd.R_lower ho HB_35.out.size)
                  have HB_36 := Aside0.mk (below_step HB_35.out hb)
                  clear ho hb
                  (refine Shut.out hK _ _ (HALL.out _ HB_36.out) (fun hHeld => ?_); clear hK K; (try simp only [Act.put, List.getElem_toArray, List.getElem_cons_zero, List.getElem_cons_succ, List.setIfInBounds_toArray, List.set_cons_zero, List.set_cons_succ]))
                  refine wpAnyH_ready (rs := [10]) (by kernel_rfl) (by simp) (AllReadyH.cons rfl (fun K hK => ?_) AllReadyH.nil)
                  · refine Kd.R_append_rows_step (Kd.int .u8) (w0 := w2) w2.heap.size rfl (.tmp 21) (.tmp 25) 25 5 (.int .u8 0) 1 rfl Try.underlying25 info_u8 rfl (by decide) (by omega) _ ([k] ++ intB t ++ textB (bytesOf sa)) (textB (bytesOf sb)) _ _ _ (fun _ => True) (fun _ => False) rfl rfl HO_36.out (Kd.R_reads' HT_36.out).2.2 (fun _ _ h => h) (fun _ h => h.elim) (fun _ _ => trivial) HB_36.out HB_36.out.size (by have := HIL.out; have := HTL.out; simp; omega) ?_
                    intro v6 zz37 ho hb hg hat
                    have HO_37 := Aside0.mk ho
                    have HB_37 := Aside0.mk hb
                    clear ho hb hg hat
                    (refine Shut.out hK _ _ (HALL.out _ HB_37.out) (fun hHeld => ?_); clear hK K; (try simp only [Act.put, List.getElem_toArray, List.getElem_cons_zero, List.getElem_cons_succ, List.setIfInBounds_toArray, List.set_cons_zero, List.set_cons_succ]))
                    (refine wpAnyH_take (i := 11) (v := ?_) rfl (by kernel_rfl) (by kernel_rfl) (by kernel_rfl) (fun _ _ _ h => h) (Or.inl ⟨by rfl, ?_⟩) (by assumption) ?_; (case' refine_2 => (intro w hSw; go_simp; try with_reducible rfl)); (try simp only [Act.put, List.getElem_toArray, List.getElem_cons_zero, List.getElem_cons_succ, List.setIfInBounds_toArray, List.set_cons_zero, List.set_cons_succ]))
                    (refine wpAnyH_take (i := 12) (v := ?_) rfl (by kernel_rfl) (by kernel_rfl) (by kernel_rfl) (fun _ _ _ h => h) (Or.inl ⟨by rfl, ?_⟩) (by assumption) ?_; (case' refine_2 => (intro w hSw; go_simp; try with_reducible rfl)); (try simp only [Act.put, List.getElem_toArray, List.getElem_cons_zero, List.getElem_cons_succ, List.setIfInBounds_toArray, List.set_cons_zero, List.set_cons_succ]))
                    refine wpAnyH_done (by kernel_rfl) ?_ _
                    go_wp2_with (fail)
                    go_ret2
                    exact ⟨_, rfl, Kd.R_lower HO_37.out HB2.out.size, below_step HB2.out HB_37.out⟩
          · rw [if_pos (by rfl)]
            refine wp_bytes (.tmp 23) rfl sb rfl ?_
            have hb := bytes_below (Below.refl zz28.heap.size zz28) (Nat.le_refl _) 5 sb
            have HO_38 := Aside0.mk (Kd.R_below HO_28.out hb)
            have HA_38 := Aside0.mk (Kd.C_below HA_28.out hb)
            have HC_38 := Aside0.mk (PZ.bytes_row sb (by have := HSZ.out; omega) zz28)
            have HCC := Aside0.mk (PZ.bytes_cap sb zz28)
            have HCN := Aside0.mk (show some zz28.heap.size ≠ v4.ownBlock from fun e => Nat.lt_irrefl _ (Kd.R_lt HO_28.out _ e.symm))
            have HB_38 := Aside0.mk (below_step HB_28.out hb)
            obtain ⟨zz38, hw_⟩ : ∃ W_, Lib.bytesWorld zz28 5 sb = W_ := ⟨_, rfl⟩
            obtain ⟨gC, hg_⟩ : ∃ W_, zz28.heap.size = W_ := ⟨_, rfl⟩
            obtain ⟨cC, hc_⟩ : ∃ W_, grownCap zz28 sb.size 0 5 = W_ := ⟨_, rfl⟩
            clear hb
            rw [hw_] at HO_38 HA_38 HB_38 HC_38
            rw [hg_] at HC_38 HCN
            rw [hc_] at HCC
            rw [hw_, hg_, hc_]
            clear hw_ hg_ hc_
            (refine Shut.out hK _ _ (HALL.out _ HB_38.out) (fun hHeld => ?_); clear hK K; (try simp only [Act.put, List.getElem_toArray, List.getElem_cons_zero, List.getElem_cons_succ, List.setIfInBounds_toArray, List.set_cons_zero, List.set_cons_succ]))
            refine wpAnyH_ready (rs := [4]) (by kernel_rfl) (by simp) (AllReadyH.cons rfl (fun K hK => ?_) AllReadyH.nil)
            · go_simp
              refine (text_n (some ⟨gA, 0, none⟩) cA sa.size (bytesOf sa) _ HA_38.out (bytesOf_length sa) (by have h := HAC.out; rw [bytesOf_length] at h; exact h) (by have := HSZ.out; omega)).mono ?_
              rintro e zz39 ⟨vx, rfl, ho, hb⟩
              obtain ⟨AT, cT, rfl⟩ := Kd.R_slice ho
              have HO_39 := Aside0.mk (Kd.R_below HO_38.out hb)
              have HA_39 := Aside0.mk (Kd.C_below HA_38.out hb)
              have HC_39 := Aside0.mk (Kd.C_below HC_38.out hb)
              have HT_39 := Aside0.mk (show Ob zz39 w2.heap.size _ (textB (bytesOf sa)) from Kd.R_lower ho HB_38.out.size)
              have HB_39 := Aside0.mk (below_step HB_38.out hb)
              clear ho hb
              (refine Shut.out hK _ _ (HALL.out _ HB_39.out) (fun hHeld => ?_); clear hK K; (try simp only [Act.put, List.getElem_toArray, List.getElem_cons_zero, List.getElem_cons_succ, List.setIfInBounds_toArray, List.set_cons_zero, List.set_cons_succ]))
              refine wpAnyH_ready (rs := [5]) (by kernel_rfl) (by simp) (AllReadyH.cons rfl (fun K hK => ?_) AllReadyH.nil)
              · refine Kd.R_append_rows_step (Kd.int .u8) (w0 := w2) w2.heap.size rfl (.tmp 16) (.tmp 20) 25 5 (.int .u8 0) 1 rfl Try.underlying25 info_u8 rfl (by decide) (by omega) _ ([k] ++ intB t) (textB (bytesOf sa)) _ _ _ (fun _ => True) (fun _ => False) rfl rfl HO_39.out (Kd.R_reads' HT_39.out).2.2 (fun _ _ h => h) (fun _ h => h.elim) (fun _ _ => trivial) HB_39.out HB_39.out.size (by have := HIL.out; have := HTL.out; simp; omega) ?_
                intro v5 zz40 ho hb hg hat
                have HO_40 := Aside0.mk ho
                have HC_40 := Aside0.mk (rb_grown HC_39.out HO_39.out hg HCN.out)
                have HB_40 := Aside0.mk hb
                clear ho hb hg hat
                (refine Shut.out hK _ _ (HALL.out _ HB_40.out) (fun hHeld => ?_); clear hK K; (try simp only [Act.put, List.getElem_toArray, List.getElem_cons_zero, List.getElem_cons_succ, List.setIfInBounds_toArray, List.set_cons_zero, List.set_cons_succ]))
                refine wpAnyH_ready (rs := [9]) (by kernel_rfl) (by simp) (AllReadyH.cons rfl (fun K hK => ?_) AllReadyH.nil)
                · go_simp
                  refine (text_n (some ⟨gC, 0, none⟩) cC sb.size (bytesOf sb) _ HC_40.out (bytesOf_length sb) (by have h := HCC.out; rw [bytesOf_length] at h; exact h) (by have := HSZ.out; omega)).mono ?_
                  rintro e zz41 ⟨vx, rfl, ho, hb⟩
                  obtain ⟨AT, cT, rfl⟩ := Kd.R_slice ho
                  have HO_41 := Aside0.mk (Kd.R_below HO_40.out hb)
                  have HC_41 := Aside0.mk (Kd.C_below HC_40.out hb)
                  have HT_41 := Aside0.mk (show Ob zz41 w2.heap.size _ (textB (bytesOf sb)) from Kd.R_lower ho HB_40.out.size)
                  have HB_41 := Aside0.mk (below_step HB_40.out hb)
                  clear ho hb
                  (refine Shut.out hK _ _ (HALL.out _ HB_41.out) (fun hHeld => ?_); clear hK K; (try simp only [Act.put, List.getElem_toArray, List.getElem_cons_zero, List.getElem_cons_succ, List.setIfInBounds_toArray, List.set_cons_zero, List.set_cons_succ]))
                  refine wpAnyH_ready (rs := [10]) (by kernel_rfl) (by simp) (AllReadyH.cons rfl (fun K hK => ?_) AllReadyH.nil)
                  · refine Kd.R_append_rows_step (Kd.int .u8) (w0 := w2) w2.heap.size rfl (.tmp 21) (.tmp 25) 25 5 (.int .u8 0) 1 rfl Try.underlying25 info_u8 rfl (by decide) (by omega) _ ([k] ++ intB t ++ textB (bytesOf sa)) (textB (bytesOf sb)) _ _ _ (fun _ => True) (fun _ => False) rfl rfl HO_41.out (Kd.R_reads' HT_41.out).2.2 (fun _ _ h => h) (fun _ h => h.elim) (fun _ _ => trivial) HB_41.out HB_41.out.size (by have := HIL.out; have := HTL.out; simp; omega) ?_
                    intro v6 zz42 ho hb hg hat
                    have HO_42 := Aside0.mk ho
                    have HB_42 := Aside0.mk hb
                    clear ho hb hg hat
                    (refine Shut.out hK _ _ (HALL.out _ HB_42.out) (fun hHeld => ?_); clear hK K; (try simp only [Act.put, List.getElem_toArray, List.getElem_cons_zero, List.getElem_cons_succ, List.setIfInBounds_toArray, List.set_cons_zero, List.set_cons_succ]))
                    (refine wpAnyH_take (i := 11) (v := ?_) rfl (by kernel_rfl) (by kernel_rfl) (by kernel_rfl) (fun _ _ _ h => h) (Or.inl ⟨by rfl, ?_⟩) (by assumption) ?_; (case' refine_2 => (intro w hSw; go_simp; try with_reducible rfl)); (try simp only [Act.put, List.getElem_toArray, List.getElem_cons_zero, List.getElem_cons_succ, List.setIfInBounds_toArray, List.set_cons_zero, List.set_cons_succ]))
                    (refine wpAnyH_take (i := 12) (v := ?_) rfl (by kernel_rfl) (by kernel_rfl) (by kernel_rfl) (fun _ _ _ h => h) (Or.inl ⟨by rfl, ?_⟩) (by assumption) ?_; (case' refine_2 => (intro w hSw; go_simp; try with_reducible rfl)); (try simp only [Act.put, List.getElem_toArray, List.getElem_cons_zero, List.getElem_cons_succ, List.setIfInBounds_toArray, List.set_cons_zero, List.set_cons_succ]))
                    refine wpAnyH_done (by kernel_rfl) ?_ _
                    go_wp2_with (fail)
                    go_ret2
                    exact ⟨_, rfl, Kd.R_lower HO_42.out HB2.out.size, below_step HB2.out HB_42.out⟩
        · rw [if_pos (by rfl)]
          refine wp_bytes (.tmp 23) rfl sb rfl ?_
          have hb := bytes_below (Below.refl zz27.drew.heap.size zz27.drew) (Nat.le_refl _) 5 sb
          have HO_43 := Aside0.mk (Kd.R_below HOd.out hb)
          have HC_43 := Aside0.mk (PZ.bytes_row sb (by have := HSZ.out; omega) zz27.drew)
          have HCC := Aside0.mk (PZ.bytes_cap sb zz27.drew)
          have HCN := Aside0.mk (show some zz27.drew.heap.size ≠ v4.ownBlock from fun e => Nat.lt_irrefl _ (Kd.R_lt HOd.out _ e.symm))
          have HB_43 := Aside0.mk (below_step HBd.out hb)
          obtain ⟨zz43, hw_⟩ : ∃ W_, Lib.bytesWorld zz27.drew 5 sb = W_ := ⟨_, rfl⟩
          obtain ⟨gC, hg_⟩ : ∃ W_, zz27.drew.heap.size = W_ := ⟨_, rfl⟩
          obtain ⟨cC, hc_⟩ : ∃ W_, grownCap zz27.drew sb.size 0 5 = W_ := ⟨_, rfl⟩
          clear hb
          rw [hw_] at HO_43 HB_43 HC_43
          rw [hg_] at HC_43 HCN
          rw [hc_] at HCC
          rw [hw_, hg_, hc_]
          clear hw_ hg_ hc_
          (refine Shut.out hK _ _ (HALL.out _ HB_43.out) (fun hHeld => ?_); clear hK K; (try simp only [Act.put, List.getElem_toArray, List.getElem_cons_zero, List.getElem_cons_succ, List.setIfInBounds_toArray, List.set_cons_zero, List.set_cons_succ]))
          refine wpAnyH_ready (rs := [3]) (by kernel_rfl) (by simp) (AllReadyH.cons rfl (fun K hK => ?_) AllReadyH.nil)
          · rw [if_pos (by rfl)]
            refine wp_bytes (.tmp 18) rfl sa rfl ?_
            have hb := bytes_below (Below.refl zz43.heap.size zz43) (Nat.le_refl _) 5 sa
            have HO_44 := Aside0.mk (Kd.R_below HO_43.out hb)
            have HC_44 := Aside0.mk (Kd.C_below HC_43.out hb)
            have HA_44 := Aside0.mk (PZ.bytes_row sa (by have := HSZ.out; omega) zz43)
            have HAC := Aside0.mk (PZ.bytes_cap sa zz43)
            have HB_44 := Aside0.mk (below_step HB_43.out hb)
            obtain ⟨zz44, hw_⟩ : ∃ W_, Lib.bytesWorld zz43 5 sa = W_ := ⟨_, rfl⟩
            obtain ⟨gA, hg_⟩ : ∃ W_, zz43.heap.size = W_ := ⟨_, rfl⟩
            obtain ⟨cA, hc_⟩ : ∃ W_, grownCap zz43 sa.size 0 5 = W_ := ⟨_, rfl⟩
            clear hb
            rw [hw_] at HO_44 HC_44 HB_44 HA_44
            rw [hg_] at HA_44
            rw [hc_] at HAC
            rw [hw_, hg_, hc_]
            clear hw_ hg_ hc_
            (refine Shut.out hK _ _ (HALL.out _ HB_44.out) (fun hHeld => ?_); clear hK K; (try simp only [Act.put, List.getElem_toArray, List.getElem_cons_zero, List.getElem_cons_succ, List.setIfInBounds_toArray, List.set_cons_zero, List.set_cons_succ]))
            refine wpAnyH_ready (rs := [4]) (by kernel_rfl) (by simp) (AllReadyH.cons rfl (fun K hK => ?_) AllReadyH.nil)
            · go_simp
              refine (text_n (some ⟨gA, 0, none⟩) cA sa.size (bytesOf sa) _ HA_44.out (bytesOf_length sa) (by have h := HAC.out; rw [bytesOf_length] at h; exact h) (by have := HSZ.out; omega)).mono ?_
              rintro e zz45 ⟨vx, rfl, ho, hb⟩
              obtain ⟨AT, cT, rfl⟩ := Kd.R_slice ho
              have HO_45 := Aside0.mk (Kd.R_below HO_44.out hb)
              have HA_45 := Aside0.mk (Kd.C_below HA_44.out hb)
              have HC_45 := Aside0.mk (Kd.C_below HC_44.out hb)
              have HT_45 := Aside0.mk (show Ob zz45 w2.heap.size _ (textB (bytesOf sa)) from Kd.R_lower ho HB_44.out.size)
              have HB_45 := Aside0.mk (below_step HB_44.out hb)
              clear ho hb
              (refine Shut.out hK _ _ (HALL.out _ HB_45.out) (fun hHeld => ?_); clear hK K; (try simp only [Act.put, List.getElem_toArray, List.getElem_cons_zero, List.getElem_cons_succ, List.setIfInBounds_toArray, List.set_cons_zero, List.set_cons_succ]))
              refine wpAnyH_ready (rs := [5]) (by kernel_rfl) (by simp) (AllReadyH.cons rfl (fun K hK => ?_) AllReadyH.nil)
              · refine Kd.R_append_rows_step (Kd.int .u8) (w0 := w2) w2.heap.size rfl (.tmp 16) (.tmp 20) 25 5 (.int .u8 0) 1 rfl Try.underlying25 info_u8 rfl (by decide) (by omega) _ ([k] ++ intB t) (textB (bytesOf sa)) _ _ _ (fun _ => True) (fun _ => False) rfl rfl HO_45.out (Kd.R_reads' HT_45.out).2.2 (fun _ _ h => h) (fun _ h => h.elim) (fun _ _ => trivial) HB_45.out HB_45.out.size (by have := HIL.out; have := HTL.out; simp; omega) ?_
                intro v5 zz46 ho hb hg hat
                have HO_46 := Aside0.mk ho
                have HC_46 := Aside0.mk (rb_grown HC_45.out HO_45.out hg HCN.out)
                have HB_46 := Aside0.mk hb
                clear ho hb hg hat
                (refine Shut.out hK _ _ (HALL.out _ HB_46.out) (fun hHeld => ?_); clear hK K; (try simp only [Act.put, List.getElem_toArray, List.getElem_cons_zero, List.getElem_cons_succ, List.setIfInBounds_toArray, List.set_cons_zero, List.set_cons_succ]))
                refine wpAnyH_ready (rs := [9]) (by kernel_rfl) (by simp) (AllReadyH.cons rfl (fun K hK => ?_) AllReadyH.nil)
                · go_simp
                  refine (text_n (some ⟨gC, 0, none⟩) cC sb.size (bytesOf sb) _ HC_46.out (bytesOf_length sb) (by have h := HCC.out; rw [bytesOf_length] at h; exact h) (by have := HSZ.out; omega)).mono ?_
                  rintro e zz47 ⟨vx, rfl, ho, hb⟩
                  obtain ⟨AT, cT, rfl⟩ := Kd.R_slice ho
                  have HO_47 := Aside0.mk (Kd.R_below HO_46.out hb)
                  have HC_47 := Aside0.mk (Kd.C_below HC_46.out hb)
                  have HT_47 := Aside0.mk (show Ob zz47 w2.heap.size _ (textB (bytesOf sb)) from Kd.R_lower ho HB_46.out.size)
                  have HB_47 := Aside0.mk (below_step HB_46.out hb)
                  clear ho hb
                  (refine Shut.out hK _ _ (HALL.out _ HB_47.out) (fun hHeld => ?_); clear hK K; (try simp only [Act.put, List.getElem_toArray, List.getElem_cons_zero, List.getElem_cons_succ, List.setIfInBounds_toArray, List.set_cons_zero, List.set_cons_succ]))
                  refine wpAnyH_ready (rs := [10]) (by kernel_rfl) (by simp) (AllReadyH.cons rfl (fun K hK => ?_) AllReadyH.nil)
                  · refine Kd.R_append_rows_step (Kd.int .u8) (w0 := w2) w2.heap.size rfl (.tmp 21) (.tmp 25) 25 5 (.int .u8 0) 1 rfl Try.underlying25 info_u8 rfl (by decide) (by omega) _ ([k] ++ intB t ++ textB (bytesOf sa)) (textB (bytesOf sb)) _ _ _ (fun _ => True) (fun _ => False) rfl rfl HO_47.out (Kd.R_reads' HT_47.out).2.2 (fun _ _ h => h) (fun _ h => h.elim) (fun _ _ => trivial) HB_47.out HB_47.out.size (by have := HIL.out; have := HTL.out; simp; omega) ?_
                    intro v6 zz48 ho hb hg hat
                    have HO_48 := Aside0.mk ho
                    have HB_48 := Aside0.mk hb
                    clear ho hb hg hat
                    (refine Shut.out hK _ _ (HALL.out _ HB_48.out) (fun hHeld => ?_); clear hK K; (try simp only [Act.put, List.getElem_toArray, List.getElem_cons_zero, List.getElem_cons_succ, List.setIfInBounds_toArray, List.set_cons_zero, List.set_cons_succ]))
                    (refine wpAnyH_take (i := 11) (v := ?_) rfl (by kernel_rfl) (by kernel_rfl) (by kernel_rfl) (fun _ _ _ h => h) (Or.inl ⟨by rfl, ?_⟩) (by assumption) ?_; (case' refine_2 => (intro w hSw; go_simp; try with_reducible rfl)); (try simp only [Act.put, List.getElem_toArray, List.getElem_cons_zero, List.getElem_cons_succ, List.setIfInBounds_toArray, List.set_cons_zero, List.set_cons_succ]))
                    (refine wpAnyH_take (i := 12) (v := ?_) rfl (by kernel_rfl) (by kernel_rfl) (by kernel_rfl) (fun _ _ _ h => h) (Or.inl ⟨by rfl, ?_⟩) (by assumption) ?_; (case' refine_2 => (intro w hSw; go_simp; try with_reducible rfl)); (try simp only [Act.put, List.getElem_toArray, List.getElem_cons_zero, List.getElem_cons_succ, List.setIfInBounds_toArray, List.set_cons_zero, List.set_cons_succ]))
                    refine wpAnyH_done (by kernel_rfl) ?_ _
                    go_wp2_with (fail)
                    go_ret2
                    exact ⟨_, rfl, Kd.R_lower HO_48.out HB2.out.size, below_step HB2.out HB_48.out⟩
end Go.Proofs.Ytfpkgdenohcglaa.Evt
/- The example of law 25 (printed by gen_crtlive.py). -/
namespace Go.Proofs.Ytfpkgdenohcglaa.Crt
set_option linter.unusedVariables false
set_option linter.unusedSimpArgs false
open Go.RowKit Go.Proofs.Ytfpkgdenohcglaa.Base Go.Proofs.Ytfpkgdenohcglaa.TlvPlain Go.Proofs.Ytfpkgdenohcglaa.Lo Go.Proofs.Ytfpkgdenohcglaa.RdPlain Go.Proofs.Ytfpkgdenohcglaa.Aid Go.Proofs.Ytfpkgdenohcglaa.ShaPlain Go.Proofs.Ytfpkgdenohcglaa.Sha Go.Proofs.Ytfpkgdenohcglaa.Com Go.Proofs.Ytfpkgdenohcglaa.Chn Go.Proofs.Ytfpkgdenohcglaa.Evt Go.Proofs.Ytfpkgdenohcglaa.PZ Go.Proofs.YtfpkgdenohcglaaW.PrintWords Go.Proofs.YtfpkgdenohcglaaW.PrintLast Go.Proofs.YtfpkgdenohcglaaW.PrintMore
attribute [local irreducible] shaB
def rS : ByteArray := ⟨#[114]⟩
def e0 : Evn := (10, 5, rS, ⟨#[]⟩)
def b0 : List Int := putV e0
theorem rS_name : Name.nameB rS = true := by
  rw [Name.name_iff]
  rw [decide_eq_true (show ∀ i, i < rS.size → Name.letB (rS.get! i).toNat = true from fun i hi => by
    have h0 : i = 0 := by have h : rS.size = 1 := rfl; omega
    subst h0
    rfl)]
  rfl
theorem e0_may : mayE e0 = true := by
  unfold mayE e0 nmB
  rw [rS_name]
  simp [ByteArray.toList_eq]
theorem e0_ends : endsE e0 = true := by
  unfold endsE
  rw [e0_may]
  rfl
theorem e0_get : getE b0 = some e0 := get_put e0_may (by decide) (by decide)
theorem e0_ended : endedT b0 = some e0 := by
  unfold endedT
  rw [e0_get]
  dsimp only
  rw [if_pos e0_ends, show e0.2.2.1 = rS from rfl, if_pos rS_name]
theorem b0_u : U8 b0 := by
  show U8 ([10] ++ intB 5 ++ textB (bytesOf rS) ++ textB (bytesOf ⟨#[]⟩))
  refine U8.append (U8.append (U8.append ?_ ?_) ?_) ?_
  · intro x hx; rw [List.mem_singleton.1 hx]; decide
  · intro x hx; exact numB_u8 (u64_range 5).2 x hx
  · exact textB_u8 (u8_bytes _) (by rw [bytesOf_length]; decide)
  · exact textB_u8 (u8_bytes _) (by rw [bytesOf_length]; decide)
theorem b0_le : b0.length ≤ 100 := by
  show ([10] ++ intB 5 ++ textB (bytesOf rS) ++ textB (bytesOf ⟨#[]⟩)).length ≤ 100
  have h1 := intB_len 5
  have h2 := textB_len (l := bytesOf rS) (by rw [bytesOf_length]; decide)
  have h3 := textB_len (l := bytesOf ⟨#[]⟩) (by rw [bytesOf_length]; decide)
  rw [bytesOf_length] at h2 h3
  have e1 : rS.size = 1 := rfl
  have e2 : (⟨#[]⟩ : ByteArray).size = 0 := rfl
  simp only [List.length_append, List.length_singleton]
  omega
def l0 : List Ent := [newE [] 7 b0]
theorem l0_u : Lu' l0 := fun y hy => by rw [List.mem_singleton.1 hy]; exact newE_u [] (by decide) (by decide) b0_u
def c0 : Cer := (rS, 0, 7, b0)
theorem l0_make : makeT l0 0 = (c0, 0) := by
  have h := makeT_in (l := l0) (k := 0) (by decide)
  rw [show ((0 : Nat) : Int) = 0 from rfl] at h
  rw [h, show l0[0] = newE [] 7 b0 from rfl, if_neg (show ¬ redE (newE [] 7 b0) = true from Bool.false_ne_true), show payE (newE [] 7 b0) = b0 from rfl, e0_ended]
  rfl
theorem c0_ev : evC c0 = some e0 := by
  unfold evC
  rw [show c0.2.2.2 = b0 from rfl, e0_ended]
  dsimp only
  rw [if_pos (show e0.2.2.1.toList = c0.1.toList from rfl)]
theorem c0_may : mayC c0 = true := by
  unfold mayC
  rw [c0_ev]
  rfl
theorem c0_check : checkT c0 l0 = true := by
  rw [checkT_in (k := 0) c0_may (by decide) rfl]
  exact decide_eq_true rfl
theorem num25_c (n : Int) (w : World) : Calls Try.prog 35 #[.int .i64 n] w fun e w' => e = .returned (.int .i64 n) ∧ w' = w := by
  go_enter Try.func35, Try.ntmps35
  go_wp2_with (fail)
  go_ret
  exact ⟨rfl, rfl⟩
theorem c0_u : CerU c0 := ⟨by show (0 : Int) ≤ 7; decide, by show (7 : Int) ≤ _; decide, b0_u, Nat.le_trans b0_le (by decide)⟩
set_option maxHeartbeats 8000000 in
set_option maxRecDepth 100000 in
theorem live25_c (w : World) : Calls Try.prog 29 #[] w (RetB w true) := by
  unfold RetB
  have HPUT := Aside0.mk (fun V => rput_c 10 5 rS ⟨#[]⟩ e0_may (by decide) (by decide) V)
  rw [show putV (10, 5, rS, ⟨#[]⟩) = b0 from rfl] at HPUT
  rw [show rS = ⟨#[114]⟩ from rfl] at HPUT
  have hu53 := Try.underlying53
  have hu60 := Try.underlying60
  go_enter Try.func29, Try.ntmps29
  go_wp2_with (fail)
  refine (HPUT.out _).mono ?_
  rintro e w1 ⟨v, rfl, ho, hb⟩
  obtain ⟨A1, c1, rfl, hc1, hr1⟩ := Kd.R_reads ho
  have HB1 := Aside0.mk hb
  have HR1 := Aside0.mk (And.intro hc1 (show Rb w1 A1 b0 from hr1))
  clear ho hb hc1 hr1
  go_wp2_with (fail)
  refine (add_c [] 0 rfl (by decide) (fun _ h => by cases h) none 0 (Nat.le_refl _) 7 (by decide) (by decide) b0 b0_u (Nat.le_trans b0_le (by decide)) A1 c1 HR1.out.1 _ (Kd.C_nil _ _) HR1.out.2).mono ?_
  rintro e w2 ⟨v2, rfl, hr2, hb⟩
  have HB2 := Aside0.mk (below_step HB1.out hb)
  obtain ⟨A2, c2, rfl, hc2, hre2⟩ := hr2.reads
  have HR2 := Aside0.mk (And.intro (show 1 ≤ c2 from hc2) (show Re w2 A2 l0 from hre2))
  rw [show (addT [] 7 b0).length = 1 from rfl]
  clear hr2 hb hc2 hre2
  go_wp2_with (fail)
  refine (make_c l0 1 rfl (by decide) l0_u (fun y hy => by rw [List.mem_singleton.1 hy]; exact Nat.le_trans b0_le (by decide)) 0 A2 c2 _ HR2.out.2).mono ?_
  rw [l0_make]
  rintro e w3 ⟨v3, rfl, ho, hb⟩
  obtain ⟨A4, c4, rfl, hc4, hr4⟩ := Kd.R_reads ho
  rw [show ((c0, (0 : Int)) : Cer × Int).1 = c0 from rfl, show ((c0, (0 : Int)) : Cer × Int).2 = 0 from rfl] at *
  rw [show c0.1 = rS from rfl, show c0.2.1 = 0 from rfl, show c0.2.2.1 = 7 from rfl, show c0.2.2.2 = b0 from rfl] at *
  have HB3 := Aside0.mk (below_step HB2.out hb)
  have HR3 := Aside0.mk (And.intro HR2.out.1 (Kd.C_below HR2.out.2 hb))
  have HP3 := Aside0.mk (And.intro hc4 (show Rb w3 A4 b0 from hr4))
  clear ho hb hc4 hr4
  go_upto_region 4 with (fail)
  have HB4 := Aside0.mk (below_alloc HB3.out (.cells #[.string rS, .int .i64 0, .int .u64 7, .slice A4 b0.length c4] 53))
  have H4 := Aside0.mk (show Blk (w3.alloc (.cells #[.string rS, .int .i64 0, .int .u64 7, .slice A4 b0.length c4] 53)) w3.heap.size 53 #[.string rS, .int .i64 0, .int .u64 7, .slice A4 b0.length c4] from blk_new _ _)
  have HR4 := Aside0.mk (Kd.C_below HR3.out.2 (below_alloc (Below.refl _ _) (.cells #[.string rS, .int .i64 0, .int .u64 7, .slice A4 b0.length c4] 53)))
  have HP4 := Aside0.mk (Kd.C_below HP3.out.2 (below_alloc (Below.refl _ _) (.cells #[.string rS, .int .i64 0, .int .u64 7, .slice A4 b0.length c4] 53)))
  obtain ⟨w4, hw_⟩ : ∃ V, w3.alloc (.cells #[.string rS, .int .i64 0, .int .u64 7, .slice A4 b0.length c4] 53) = V := ⟨_, rfl⟩
  rw [hw_] at HB4 H4 HR4 HP4
  rw [hw_]
  clear hw_
  have x0 := H4.out.cell 0
  have x1 := H4.out.cell 1
  have x2 := H4.out.cell 2
  have x3 := H4.out.cell 3
  simp only [List.getElem?_toArray, List.getElem?_cons_zero, List.getElem?_cons_succ] at x0 x1 x2 x3
  go_wp2_with (fail)
  refine (num25_c 0 _).mono ?_
  rintro e w5 ⟨rfl, rfl⟩
  have e1 : (rS.toList == ([114] : List UInt8)) = true := beq_iff_eq.mpr (by rw [ByteArray.toList_eq]; rfl)
  go_wp2_with (fail)
  refine (check_c c0 c0_u l0 1 rfl (by decide) l0_u A4 c4 HP3.out.1 A2 c2 _ HR4.out HP4.out).mono ?_
  rw [c0_check]
  rintro e w6 ⟨rfl, hb⟩
  have HB6 := Aside0.mk (below_step HB4.out hb)
  clear hb
  go_wp2_with (fail)
  go_ret
  exact ⟨rfl, HB6.out⟩
end Go.Proofs.Ytfpkgdenohcglaa.Crt
-- printed for this claim by a program (pall.sh)
-- mended by fixpz.py
namespace Go.Proofs.Ytfpkgdenohcglaa.PZ
open Go.RowKit Go.Proofs.YtfpkgdenohcglaaW.PrintWords Go.Proofs.YtfpkgdenohcglaaW.PrintLast Go.Proofs.YtfpkgdenohcglaaW.PrintMore
attribute [local go_sem] max2_int min2_int max_two min_two max_three min_three max_four min_four   -- for this text's walks alone
set_option linter.unusedVariables false
set_option linter.unusedSimpArgs false

/-! ### hanaperlaw25_huge: function 28 -/
def hanaperlaw25_huge.f (a0_0 : ByteArray) (a0_1 : Int) (a0_2 : Int) (l0_3 : List Int) : Option (Bool) := if (l0_3.length : Int) > 300 then (some true) else (some (decide ((a0_0.size : Int) > 100)))
set_option maxHeartbeats 8000000 in
set_option maxRecDepth 100000 in
theorem hanaperlaw25_huge.calls (a0_0 : ByteArray) (a0_1 : Int) (a0_2 : Int) (A0_3 : Option Addr) (c0_3 : Nat) (l0_3 : List Int) (r : Bool) (w : World) (hr0_3 : Kd.C (Kd.int .u8) w A0_3 l0_3.length l0_3) (hc0_3 : l0_3.length ≤ c0_3) (h : hanaperlaw25_huge.f a0_0 a0_1 a0_2 l0_3 = some r) :
  Calls Try.prog 28 #[.agg #[.string a0_0, .int .i64 a0_1, .int .u64 a0_2, .slice A0_3 l0_3.length c0_3]] w fun e w' => e = .returned (.bool r) ∧ Below w.heap.size w w' := by
 have hu53 := Try.underlying53
 have HR0_3 := Aside0.mk hr0_3
 have HC0_3 := Aside0.mk hc0_3
 clear hr0_3 hc0_3
 have HB := Aside0.mk (Below.refl w.heap.size w)
 have H : (if (l0_3.length : Int) > 300 then (some true) else (some (decide ((a0_0.size : Int) > 100)))) = some r := h
 clear h
 by_cases c2 : (l0_3.length : Int) > 300
 ·rw [if_pos c2] at H
  have c2b0 : decide (300 < (l0_3.length : Int)) = true := decide_eq_true c2
  have c2b1 : decide (300 < l0_3.length) = true := decide_eq_true (by omega)
  clear c2
  obtain rfl := Option.some.inj H
  go_enter Try.func28, Try.ntmps28
  go_wp2_with (first | ((with_reducible refine gate_dst (N := 1) rfl ?_); (try (refine gate_guard (by rfl) ?_; dsimp only)); refine box_event ?hg (N := 1) ?hd (cs := #[.string a0_0, .int .i64 a0_1, .int .u64 a0_2, .slice A0_3 l0_3.length c0_3]) (t := 53) ?hr ?_; (case hd => rfl); (case hg => rfl); (case hr => first | (go_simp; done) | (go_simp; rfl)); intro gb101 hg w3 hbox hb; have n0_ := Aside0.mk (below_step (by repeat (first | (with_reducible first | exact HB.out | apply below_alloc | apply pw_below_drewN | apply below_drew1) | exact HB.out)) hb); have n1_ := Aside0.mk (hbox); have n2_ := Aside0.mk ((by rw [hg]; exact (below_size (by repeat (first | (with_reducible first | exact HB.out | apply below_alloc | apply pw_below_drewN | apply below_drew1) | exact HB.out))) : w.heap.size ≤ gb101)); have n3_ := Aside0.mk ((by rw [hg]; exact (below_size (by repeat (first | (with_reducible first | exact HB.out | apply below_alloc | apply pw_below_drewN | apply below_drew1) | exact HB.out))) : w.heap.size ≤ gb101)); clear HB; have HB := n0_; have BK101 := n1_; have GW101 := n2_; have GE101 := n3_; clear n0_ n1_ n2_ n3_; clear hb hbox hg; have hcz4_0 : w3.cell? ⟨gb101, 0, none⟩ = some (.string a0_0) := (blk_cell BK101.out 0).trans rfl; have hcz4_1 : w3.cell? ⟨gb101, 1, none⟩ = some (.int .i64 a0_1) := (blk_cell BK101.out 1).trans rfl; have hcz4_2 : w3.cell? ⟨gb101, 2, none⟩ = some (.int .u64 a0_2) := (blk_cell BK101.out 2).trans rfl; have hcz4_3 : w3.cell? ⟨gb101, 3, none⟩ = some (.slice A0_3 l0_3.length c0_3) := (blk_cell BK101.out 3).trans rfl; have hfz4_0 := blk_frozen BK101.out 0; have hfz4_1 := blk_frozen BK101.out 1; have hfz4_2 := blk_frozen BK101.out 2; have hfz4_3 := blk_frozen BK101.out 3))
  go_ret
  exact ⟨by first | rfl | (simp [errW_none, errW_some] <;> rfl) | (simp [*, errW_none, errW_some] <;> rfl), by repeat (first | (with_reducible first | exact HB.out | apply below_alloc | apply pw_below_drewN | apply below_drew1 | refine below_set ?_ GE101.out) | exact HB.out)⟩
 ·rw [if_neg c2] at H
  have c2b0 : decide (300 < (l0_3.length : Int)) = false := decide_eq_false c2
  have c2b1 : decide (300 < l0_3.length) = false := decide_eq_false (by omega)
  clear c2
  obtain rfl := Option.some.inj H
  go_enter Try.func28, Try.ntmps28
  go_wp2_with (first | ((with_reducible refine gate_dst (N := 1) rfl ?_); (try (refine gate_guard (by rfl) ?_; dsimp only)); refine box_event ?hg (N := 1) ?hd (cs := #[.string a0_0, .int .i64 a0_1, .int .u64 a0_2, .slice A0_3 l0_3.length c0_3]) (t := 53) ?hr ?_; (case hd => rfl); (case hg => rfl); (case hr => first | (go_simp; done) | (go_simp; rfl)); intro gb101 hg w5 hbox hb; have n0_ := Aside0.mk (below_step (by repeat (first | (with_reducible first | exact HB.out | apply below_alloc | apply pw_below_drewN | apply below_drew1) | exact HB.out)) hb); have n1_ := Aside0.mk (hbox); have n2_ := Aside0.mk ((by rw [hg]; exact (below_size (by repeat (first | (with_reducible first | exact HB.out | apply below_alloc | apply pw_below_drewN | apply below_drew1) | exact HB.out))) : w.heap.size ≤ gb101)); have n3_ := Aside0.mk ((by rw [hg]; exact (below_size (by repeat (first | (with_reducible first | exact HB.out | apply below_alloc | apply pw_below_drewN | apply below_drew1) | exact HB.out))) : w.heap.size ≤ gb101)); clear HB; have HB := n0_; have BK101 := n1_; have GW101 := n2_; have GE101 := n3_; clear n0_ n1_ n2_ n3_; clear hb hbox hg; have hcz6_0 : w5.cell? ⟨gb101, 0, none⟩ = some (.string a0_0) := (blk_cell BK101.out 0).trans rfl; have hcz6_1 : w5.cell? ⟨gb101, 1, none⟩ = some (.int .i64 a0_1) := (blk_cell BK101.out 1).trans rfl; have hcz6_2 : w5.cell? ⟨gb101, 2, none⟩ = some (.int .u64 a0_2) := (blk_cell BK101.out 2).trans rfl; have hcz6_3 : w5.cell? ⟨gb101, 3, none⟩ = some (.slice A0_3 l0_3.length c0_3) := (blk_cell BK101.out 3).trans rfl; have hfz6_0 := blk_frozen BK101.out 0; have hfz6_1 := blk_frozen BK101.out 1; have hfz6_2 := blk_frozen BK101.out 2; have hfz6_3 := blk_frozen BK101.out 3))
  go_ret
  exact ⟨by first | rfl | (simp [errW_none, errW_some] <;> rfl) | (simp [*, errW_none, errW_some] <;> rfl), by repeat (first | (with_reducible first | exact HB.out | apply below_alloc | apply pw_below_drewN | apply below_drew1 | refine below_set ?_ GE101.out) | exact HB.out)⟩

end Go.Proofs.Ytfpkgdenohcglaa.PZ
-- printed for this claim by a program (pall.sh)
-- mended by fixpz.py
namespace Go.Proofs.Ytfpkgdenohcglaa.PZ
open Go.RowKit Go.Proofs.YtfpkgdenohcglaaW.PrintWords Go.Proofs.YtfpkgdenohcglaaW.PrintLast Go.Proofs.YtfpkgdenohcglaaW.PrintMore
attribute [local go_sem] max2_int min2_int max_two min_two max_three min_three max_four min_four   -- for this text's walks alone
set_option linter.unusedVariables false
set_option linter.unusedSimpArgs false

/-! ### hanaperref25_Same: function 34 -/
def hanaperref25_Same.f (k : Nat) (a0_0 : ByteArray) (a0_1 : Int) (a0_2 : Int) (l0_3 : List Int) (a1_0 : ByteArray) (a1_1 : Int) (a1_2 : Int) (l1_3 : List Int) : Option (Bool) := if a0_0.toList = a1_0.toList then (if a0_1 = a1_1 then (if a0_2 = a1_2 then ((hanaperref01_Same.f k l0_3 l1_3).bind fun t103 => (some t103)) else (some false)) else (some false)) else (some false)
set_option maxHeartbeats 8000000 in
set_option maxRecDepth 100000 in
theorem hanaperref25_Same.calls (k : Nat) (a0_0 : ByteArray) (a0_1 : Int) (a0_2 : Int) (A0_3 : Option Addr) (c0_3 : Nat) (l0_3 : List Int) (a1_0 : ByteArray) (a1_1 : Int) (a1_2 : Int) (A1_3 : Option Addr) (c1_3 : Nat) (l1_3 : List Int) (r : Bool) (w : World) (hr0_3 : Kd.C (Kd.int .u8) w A0_3 l0_3.length l0_3) (hc0_3 : l0_3.length ≤ c0_3) (hr1_3 : Kd.C (Kd.int .u8) w A1_3 l1_3.length l1_3) (hc1_3 : l1_3.length ≤ c1_3) (h : hanaperref25_Same.f k a0_0 a0_1 a0_2 l0_3 a1_0 a1_1 a1_2 l1_3 = some r) :
  Calls Try.prog 34 #[.agg #[.string a0_0, .int .i64 a0_1, .int .u64 a0_2, .slice A0_3 l0_3.length c0_3], .agg #[.string a1_0, .int .i64 a1_1, .int .u64 a1_2, .slice A1_3 l1_3.length c1_3]] w fun e w' => e = .returned (.bool r) ∧ Below w.heap.size w w' := by
 have hu53 := Try.underlying53
 have HR0_3 := Aside0.mk hr0_3
 have HC0_3 := Aside0.mk hc0_3
 clear hr0_3 hc0_3
 have HR1_3 := Aside0.mk hr1_3
 have HC1_3 := Aside0.mk hc1_3
 clear hr1_3 hc1_3
 have HB := Aside0.mk (Below.refl w.heap.size w)
 have H : (if a0_0.toList = a1_0.toList then (if a0_1 = a1_1 then (if a0_2 = a1_2 then ((hanaperref01_Same.f k l0_3 l1_3).bind fun t103 => (some t103)) else (some false)) else (some false)) else (some false)) = some r := h
 clear h
 by_cases c3 : a0_0.toList = a1_0.toList
 ·rw [if_pos c3] at H
  have c3b0 : (a0_0.toList == a1_0.toList) = true := beq_iff_eq.mpr c3
  have c3b1 : (a0_0.toList != a1_0.toList) = false := bne_eq_false_iff_eq.mpr c3
  clear c3
  by_cases c4 : a0_1 = a1_1
  ·rw [if_pos c4] at H
   have c4b0 : (a0_1 == a1_1) = true := beq_iff_eq.mpr c4
   have c4b1 : (a0_1 != a1_1) = false := bne_eq_false_iff_eq.mpr c4
   clear c4
   by_cases c5 : a0_2 = a1_2
   ·rw [if_pos c5] at H
    have c5b0 : (a0_2 == a1_2) = true := beq_iff_eq.mpr c5
    have c5b1 : (a0_2 != a1_2) = false := bne_eq_false_iff_eq.mpr c5
    clear c5
    replace H := Option.bind_eq_some_iff.mp H
    obtain ⟨t103, A60, H⟩ := H
    replace H : (some t103) = some r := H
    have A6 := Aside0.mk A60
    clear A60
    obtain rfl := Option.some.inj H
    go_enter Try.func34, Try.ntmps34
    go_wp2_with (first | ((with_reducible refine gate_dst (N := 2) rfl ?_); refine box_event ?hg (N := 2) ?hd (cs := #[.string a0_0, .int .i64 a0_1, .int .u64 a0_2, .slice A0_3 l0_3.length c0_3]) (t := 53) ?hr ?_; (case hd => rfl); (case hg => rfl); (case hr => first | (go_simp; done) | (go_simp; rfl)); intro gb101 hg w7 hbox hb; have n0_ := Aside0.mk (below_step (by repeat (first | (with_reducible first | exact HB.out | apply below_alloc | apply pw_below_drewN | apply below_drew1) | exact HB.out)) hb); have n1_ := Aside0.mk (hbox); have n2_ := Aside0.mk ((by rw [hg]; exact (below_size (by repeat (first | (with_reducible first | exact HB.out | apply below_alloc | apply pw_below_drewN | apply below_drew1) | exact HB.out))) : w.heap.size ≤ gb101)); have n3_ := Aside0.mk ((by rw [hg]; exact (below_size (by repeat (first | (with_reducible first | exact HB.out | apply below_alloc | apply pw_below_drewN | apply below_drew1) | exact HB.out))) : w.heap.size ≤ gb101)); clear HB; have HB := n0_; have BK101 := n1_; have GW101 := n2_; have GE101 := n3_; clear n0_ n1_ n2_ n3_; clear hb hbox hg) | ((with_reducible refine gate_dst (N := 3) rfl ?_); refine box_event ?hg (N := 3) ?hd (cs := #[.string a1_0, .int .i64 a1_1, .int .u64 a1_2, .slice A1_3 l1_3.length c1_3]) (t := 53) ?hr ?_; (case hd => rfl); (case hg => rfl); (case hr => first | (go_simp; done) | (go_simp; rfl)); intro gb102 hg w8 hbox hb; have n0_ := Aside0.mk (blk_below (g := gb101) (o := .cells #[.string a0_0, .int .i64 a0_1, .int .u64 a0_2, .slice A0_3 l0_3.length c0_3] 53 (0, 0)) (by (with_reducible repeat (first | refine blk_drewN ?_ _ | refine blk_drew ?_ | refine blk_alloc ?_ _)); exact BK101.out) hb); have n1_ := Aside0.mk (below_step (by repeat (first | (with_reducible first | exact HB.out | apply below_alloc | apply pw_below_drewN | apply below_drew1 | refine below_set ?_ GE101.out) | exact HB.out)) hb); have n2_ := Aside0.mk (hbox); have n3_ := Aside0.mk ((by rw [hg]; exact (below_size (by repeat (first | (with_reducible first | exact HB.out | apply below_alloc | apply pw_below_drewN | apply below_drew1 | refine below_set ?_ GE101.out) | exact HB.out))) : w.heap.size ≤ gb102)); have n4_ := Aside0.mk ((by rw [hg]; exact (below_size (by repeat (first | (with_reducible first | exact HB.out | apply below_alloc | apply pw_below_drewN | apply below_drew1 | refine below_set ?_ GE101.out) | exact HB.out))) : w.heap.size ≤ gb102)); have n5_ := Aside0.mk ((by rw [hg]; exact Nat.ne_of_lt (blk_lt (g := gb101) (o := .cells #[.string a0_0, .int .i64 a0_1, .int .u64 a0_2, .slice A0_3 l0_3.length c0_3] 53 (0, 0)) (by (with_reducible repeat (first | refine blk_drewN ?_ _ | refine blk_drew ?_ | refine blk_alloc ?_ _)); exact BK101.out)) : gb101 ≠ gb102)); have n6_ := Aside0.mk ((by rw [hg]; exact Nat.ne_of_gt (blk_lt (g := gb101) (o := .cells #[.string a0_0, .int .i64 a0_1, .int .u64 a0_2, .slice A0_3 l0_3.length c0_3] 53 (0, 0)) (by (with_reducible repeat (first | refine blk_drewN ?_ _ | refine blk_drew ?_ | refine blk_alloc ?_ _)); exact BK101.out)) : gb102 ≠ gb101)); clear BK101; clear HB; have BK101 := n0_; have HB := n1_; have BK102 := n2_; have GW102 := n3_; have GE102 := n4_; have NB101_102 := n5_; have NB102_101 := n6_; clear n0_ n1_ n2_ n3_ n4_ n5_ n6_; clear hb hbox hg; have hnb9 := NB101_102.out; have hnc9 := NB102_101.out; have hcz10_0 : w8.cell? ⟨gb101, 0, none⟩ = some (.string a0_0) := (blk_cell BK101.out 0).trans rfl; have hcz10_1 : w8.cell? ⟨gb101, 1, none⟩ = some (.int .i64 a0_1) := (blk_cell BK101.out 1).trans rfl; have hcz10_2 : w8.cell? ⟨gb101, 2, none⟩ = some (.int .u64 a0_2) := (blk_cell BK101.out 2).trans rfl; have hcz10_3 : w8.cell? ⟨gb101, 3, none⟩ = some (.slice A0_3 l0_3.length c0_3) := (blk_cell BK101.out 3).trans rfl; have hfz10_0 := blk_frozen BK101.out 0; have hfz10_1 := blk_frozen BK101.out 1; have hfz10_2 := blk_frozen BK101.out 2; have hfz10_3 := blk_frozen BK101.out 3; have hcz11_0 : w8.cell? ⟨gb102, 0, none⟩ = some (.string a1_0) := (blk_cell BK102.out 0).trans rfl; have hcz11_1 : w8.cell? ⟨gb102, 1, none⟩ = some (.int .i64 a1_1) := (blk_cell BK102.out 1).trans rfl; have hcz11_2 : w8.cell? ⟨gb102, 2, none⟩ = some (.int .u64 a1_2) := (blk_cell BK102.out 2).trans rfl; have hcz11_3 : w8.cell? ⟨gb102, 3, none⟩ = some (.slice A1_3 l1_3.length c1_3) := (blk_cell BK102.out 3).trans rfl; have hfz11_0 := blk_frozen BK102.out 0; have hfz11_1 := blk_frozen BK102.out 1; have hfz11_2 := blk_frozen BK102.out 2; have hfz11_3 := blk_frozen BK102.out 3) | (go_at_call 23; (with_reducible refine (hanaperref01_Same.calls k _ _ l0_3 _ _ l1_3 t103 _ ?side1 ?side2 ?side3 ?side4 A6.out).mono ?_); (case side1 => repeat (first | exact (Kd.C_below HR0_3.out HB.out) | (with_reducible refine Kd.C_alloc ?_ _) | (with_reducible refine Kd.C_drewN ?_ _) | (with_reducible refine Kd.C_drew ?_))); (case side2 => exact HC0_3.out); (case side3 => repeat (first | exact (Kd.C_below HR1_3.out HB.out) | (with_reducible refine Kd.C_alloc ?_ _) | (with_reducible refine Kd.C_drewN ?_ _) | (with_reducible refine Kd.C_drew ?_))); (case side4 => exact HC1_3.out); rintro e w' ⟨rfl, ⟨nd, rfl⟩⟩))
    go_ret
    exact ⟨by first | rfl | (simp [errW_none, errW_some] <;> rfl) | (simp [*, errW_none, errW_some] <;> rfl), by repeat (first | (with_reducible first | exact HB.out | apply below_alloc | apply pw_below_drewN | apply below_drew1 | refine below_set ?_ GE101.out | refine below_set ?_ GE102.out) | exact HB.out)⟩
   ·rw [if_neg c5] at H
    have c5b0 : (a0_2 == a1_2) = false := beq_eq_false_iff_ne.mpr c5
    have c5b1 : (a0_2 != a1_2) = true := bne_iff_ne.mpr c5
    obtain rfl := Option.some.inj H
    go_enter Try.func34, Try.ntmps34
    go_wp2_with (first | ((with_reducible refine gate_dst (N := 2) rfl ?_); refine box_event ?hg (N := 2) ?hd (cs := #[.string a0_0, .int .i64 a0_1, .int .u64 a0_2, .slice A0_3 l0_3.length c0_3]) (t := 53) ?hr ?_; (case hd => rfl); (case hg => rfl); (case hr => first | (go_simp; done) | (go_simp; rfl)); intro gb101 hg w12 hbox hb; have n0_ := Aside0.mk (below_step (by repeat (first | (with_reducible first | exact HB.out | apply below_alloc | apply pw_below_drewN | apply below_drew1) | exact HB.out)) hb); have n1_ := Aside0.mk (hbox); have n2_ := Aside0.mk ((by rw [hg]; exact (below_size (by repeat (first | (with_reducible first | exact HB.out | apply below_alloc | apply pw_below_drewN | apply below_drew1) | exact HB.out))) : w.heap.size ≤ gb101)); have n3_ := Aside0.mk ((by rw [hg]; exact (below_size (by repeat (first | (with_reducible first | exact HB.out | apply below_alloc | apply pw_below_drewN | apply below_drew1) | exact HB.out))) : w.heap.size ≤ gb101)); clear HB; have HB := n0_; have BK101 := n1_; have GW101 := n2_; have GE101 := n3_; clear n0_ n1_ n2_ n3_; clear hb hbox hg) | ((with_reducible refine gate_dst (N := 3) rfl ?_); refine box_event ?hg (N := 3) ?hd (cs := #[.string a1_0, .int .i64 a1_1, .int .u64 a1_2, .slice A1_3 l1_3.length c1_3]) (t := 53) ?hr ?_; (case hd => rfl); (case hg => rfl); (case hr => first | (go_simp; done) | (go_simp; rfl)); intro gb102 hg w13 hbox hb; have n0_ := Aside0.mk (blk_below (g := gb101) (o := .cells #[.string a0_0, .int .i64 a0_1, .int .u64 a0_2, .slice A0_3 l0_3.length c0_3] 53 (0, 0)) (by (with_reducible repeat (first | refine blk_drewN ?_ _ | refine blk_drew ?_ | refine blk_alloc ?_ _)); exact BK101.out) hb); have n1_ := Aside0.mk (below_step (by repeat (first | (with_reducible first | exact HB.out | apply below_alloc | apply pw_below_drewN | apply below_drew1 | refine below_set ?_ GE101.out) | exact HB.out)) hb); have n2_ := Aside0.mk (hbox); have n3_ := Aside0.mk ((by rw [hg]; exact (below_size (by repeat (first | (with_reducible first | exact HB.out | apply below_alloc | apply pw_below_drewN | apply below_drew1 | refine below_set ?_ GE101.out) | exact HB.out))) : w.heap.size ≤ gb102)); have n4_ := Aside0.mk ((by rw [hg]; exact (below_size (by repeat (first | (with_reducible first | exact HB.out | apply below_alloc | apply pw_below_drewN | apply below_drew1 | refine below_set ?_ GE101.out) | exact HB.out))) : w.heap.size ≤ gb102)); have n5_ := Aside0.mk ((by rw [hg]; exact Nat.ne_of_lt (blk_lt (g := gb101) (o := .cells #[.string a0_0, .int .i64 a0_1, .int .u64 a0_2, .slice A0_3 l0_3.length c0_3] 53 (0, 0)) (by (with_reducible repeat (first | refine blk_drewN ?_ _ | refine blk_drew ?_ | refine blk_alloc ?_ _)); exact BK101.out)) : gb101 ≠ gb102)); have n6_ := Aside0.mk ((by rw [hg]; exact Nat.ne_of_gt (blk_lt (g := gb101) (o := .cells #[.string a0_0, .int .i64 a0_1, .int .u64 a0_2, .slice A0_3 l0_3.length c0_3] 53 (0, 0)) (by (with_reducible repeat (first | refine blk_drewN ?_ _ | refine blk_drew ?_ | refine blk_alloc ?_ _)); exact BK101.out)) : gb102 ≠ gb101)); clear BK101; clear HB; have BK101 := n0_; have HB := n1_; have BK102 := n2_; have GW102 := n3_; have GE102 := n4_; have NB101_102 := n5_; have NB102_101 := n6_; clear n0_ n1_ n2_ n3_ n4_ n5_ n6_; clear hb hbox hg; have hnb14 := NB101_102.out; have hnc14 := NB102_101.out; have hcz15_0 : w13.cell? ⟨gb101, 0, none⟩ = some (.string a0_0) := (blk_cell BK101.out 0).trans rfl; have hcz15_1 : w13.cell? ⟨gb101, 1, none⟩ = some (.int .i64 a0_1) := (blk_cell BK101.out 1).trans rfl; have hcz15_2 : w13.cell? ⟨gb101, 2, none⟩ = some (.int .u64 a0_2) := (blk_cell BK101.out 2).trans rfl; have hcz15_3 : w13.cell? ⟨gb101, 3, none⟩ = some (.slice A0_3 l0_3.length c0_3) := (blk_cell BK101.out 3).trans rfl; have hfz15_0 := blk_frozen BK101.out 0; have hfz15_1 := blk_frozen BK101.out 1; have hfz15_2 := blk_frozen BK101.out 2; have hfz15_3 := blk_frozen BK101.out 3; have hcz16_0 : w13.cell? ⟨gb102, 0, none⟩ = some (.string a1_0) := (blk_cell BK102.out 0).trans rfl; have hcz16_1 : w13.cell? ⟨gb102, 1, none⟩ = some (.int .i64 a1_1) := (blk_cell BK102.out 1).trans rfl; have hcz16_2 : w13.cell? ⟨gb102, 2, none⟩ = some (.int .u64 a1_2) := (blk_cell BK102.out 2).trans rfl; have hcz16_3 : w13.cell? ⟨gb102, 3, none⟩ = some (.slice A1_3 l1_3.length c1_3) := (blk_cell BK102.out 3).trans rfl; have hfz16_0 := blk_frozen BK102.out 0; have hfz16_1 := blk_frozen BK102.out 1; have hfz16_2 := blk_frozen BK102.out 2; have hfz16_3 := blk_frozen BK102.out 3))
    go_ret
    exact ⟨by first | rfl | (simp [errW_none, errW_some] <;> rfl) | (simp [*, errW_none, errW_some] <;> rfl), by repeat (first | (with_reducible first | exact HB.out | apply below_alloc | apply pw_below_drewN | apply below_drew1 | refine below_set ?_ GE101.out | refine below_set ?_ GE102.out) | exact HB.out)⟩
  ·rw [if_neg c4] at H
   have c4b0 : (a0_1 == a1_1) = false := beq_eq_false_iff_ne.mpr c4
   have c4b1 : (a0_1 != a1_1) = true := bne_iff_ne.mpr c4
   obtain rfl := Option.some.inj H
   go_enter Try.func34, Try.ntmps34
   go_wp2_with (first | ((with_reducible refine gate_dst (N := 2) rfl ?_); refine box_event ?hg (N := 2) ?hd (cs := #[.string a0_0, .int .i64 a0_1, .int .u64 a0_2, .slice A0_3 l0_3.length c0_3]) (t := 53) ?hr ?_; (case hd => rfl); (case hg => rfl); (case hr => first | (go_simp; done) | (go_simp; rfl)); intro gb101 hg w17 hbox hb; have n0_ := Aside0.mk (below_step (by repeat (first | (with_reducible first | exact HB.out | apply below_alloc | apply pw_below_drewN | apply below_drew1) | exact HB.out)) hb); have n1_ := Aside0.mk (hbox); have n2_ := Aside0.mk ((by rw [hg]; exact (below_size (by repeat (first | (with_reducible first | exact HB.out | apply below_alloc | apply pw_below_drewN | apply below_drew1) | exact HB.out))) : w.heap.size ≤ gb101)); have n3_ := Aside0.mk ((by rw [hg]; exact (below_size (by repeat (first | (with_reducible first | exact HB.out | apply below_alloc | apply pw_below_drewN | apply below_drew1) | exact HB.out))) : w.heap.size ≤ gb101)); clear HB; have HB := n0_; have BK101 := n1_; have GW101 := n2_; have GE101 := n3_; clear n0_ n1_ n2_ n3_; clear hb hbox hg) | ((with_reducible refine gate_dst (N := 3) rfl ?_); refine box_event ?hg (N := 3) ?hd (cs := #[.string a1_0, .int .i64 a1_1, .int .u64 a1_2, .slice A1_3 l1_3.length c1_3]) (t := 53) ?hr ?_; (case hd => rfl); (case hg => rfl); (case hr => first | (go_simp; done) | (go_simp; rfl)); intro gb102 hg w18 hbox hb; have n0_ := Aside0.mk (blk_below (g := gb101) (o := .cells #[.string a0_0, .int .i64 a0_1, .int .u64 a0_2, .slice A0_3 l0_3.length c0_3] 53 (0, 0)) (by (with_reducible repeat (first | refine blk_drewN ?_ _ | refine blk_drew ?_ | refine blk_alloc ?_ _)); exact BK101.out) hb); have n1_ := Aside0.mk (below_step (by repeat (first | (with_reducible first | exact HB.out | apply below_alloc | apply pw_below_drewN | apply below_drew1 | refine below_set ?_ GE101.out) | exact HB.out)) hb); have n2_ := Aside0.mk (hbox); have n3_ := Aside0.mk ((by rw [hg]; exact (below_size (by repeat (first | (with_reducible first | exact HB.out | apply below_alloc | apply pw_below_drewN | apply below_drew1 | refine below_set ?_ GE101.out) | exact HB.out))) : w.heap.size ≤ gb102)); have n4_ := Aside0.mk ((by rw [hg]; exact (below_size (by repeat (first | (with_reducible first | exact HB.out | apply below_alloc | apply pw_below_drewN | apply below_drew1 | refine below_set ?_ GE101.out) | exact HB.out))) : w.heap.size ≤ gb102)); have n5_ := Aside0.mk ((by rw [hg]; exact Nat.ne_of_lt (blk_lt (g := gb101) (o := .cells #[.string a0_0, .int .i64 a0_1, .int .u64 a0_2, .slice A0_3 l0_3.length c0_3] 53 (0, 0)) (by (with_reducible repeat (first | refine blk_drewN ?_ _ | refine blk_drew ?_ | refine blk_alloc ?_ _)); exact BK101.out)) : gb101 ≠ gb102)); have n6_ := Aside0.mk ((by rw [hg]; exact Nat.ne_of_gt (blk_lt (g := gb101) (o := .cells #[.string a0_0, .int .i64 a0_1, .int .u64 a0_2, .slice A0_3 l0_3.length c0_3] 53 (0, 0)) (by (with_reducible repeat (first | refine blk_drewN ?_ _ | refine blk_drew ?_ | refine blk_alloc ?_ _)); exact BK101.out)) : gb102 ≠ gb101)); clear BK101; clear HB; have BK101 := n0_; have HB := n1_; have BK102 := n2_; have GW102 := n3_; have GE102 := n4_; have NB101_102 := n5_; have NB102_101 := n6_; clear n0_ n1_ n2_ n3_ n4_ n5_ n6_; clear hb hbox hg; have hnb19 := NB101_102.out; have hnc19 := NB102_101.out; have hcz20_0 : w18.cell? ⟨gb101, 0, none⟩ = some (.string a0_0) := (blk_cell BK101.out 0).trans rfl; have hcz20_1 : w18.cell? ⟨gb101, 1, none⟩ = some (.int .i64 a0_1) := (blk_cell BK101.out 1).trans rfl; have hcz20_2 : w18.cell? ⟨gb101, 2, none⟩ = some (.int .u64 a0_2) := (blk_cell BK101.out 2).trans rfl; have hcz20_3 : w18.cell? ⟨gb101, 3, none⟩ = some (.slice A0_3 l0_3.length c0_3) := (blk_cell BK101.out 3).trans rfl; have hfz20_0 := blk_frozen BK101.out 0; have hfz20_1 := blk_frozen BK101.out 1; have hfz20_2 := blk_frozen BK101.out 2; have hfz20_3 := blk_frozen BK101.out 3; have hcz21_0 : w18.cell? ⟨gb102, 0, none⟩ = some (.string a1_0) := (blk_cell BK102.out 0).trans rfl; have hcz21_1 : w18.cell? ⟨gb102, 1, none⟩ = some (.int .i64 a1_1) := (blk_cell BK102.out 1).trans rfl; have hcz21_2 : w18.cell? ⟨gb102, 2, none⟩ = some (.int .u64 a1_2) := (blk_cell BK102.out 2).trans rfl; have hcz21_3 : w18.cell? ⟨gb102, 3, none⟩ = some (.slice A1_3 l1_3.length c1_3) := (blk_cell BK102.out 3).trans rfl; have hfz21_0 := blk_frozen BK102.out 0; have hfz21_1 := blk_frozen BK102.out 1; have hfz21_2 := blk_frozen BK102.out 2; have hfz21_3 := blk_frozen BK102.out 3))
   go_ret
   exact ⟨by first | rfl | (simp [errW_none, errW_some] <;> rfl) | (simp [*, errW_none, errW_some] <;> rfl), by repeat (first | (with_reducible first | exact HB.out | apply below_alloc | apply pw_below_drewN | apply below_drew1 | refine below_set ?_ GE101.out | refine below_set ?_ GE102.out) | exact HB.out)⟩
 ·rw [if_neg c3] at H
  have c3b0 : (a0_0.toList == a1_0.toList) = false := beq_eq_false_iff_ne.mpr c3
  have c3b1 : (a0_0.toList != a1_0.toList) = true := bne_iff_ne.mpr c3
  obtain rfl := Option.some.inj H
  go_enter Try.func34, Try.ntmps34
  go_wp2_with (first | ((with_reducible refine gate_dst (N := 2) rfl ?_); refine box_event ?hg (N := 2) ?hd (cs := #[.string a0_0, .int .i64 a0_1, .int .u64 a0_2, .slice A0_3 l0_3.length c0_3]) (t := 53) ?hr ?_; (case hd => rfl); (case hg => rfl); (case hr => first | (go_simp; done) | (go_simp; rfl)); intro gb101 hg w22 hbox hb; have n0_ := Aside0.mk (below_step (by repeat (first | (with_reducible first | exact HB.out | apply below_alloc | apply pw_below_drewN | apply below_drew1) | exact HB.out)) hb); have n1_ := Aside0.mk (hbox); have n2_ := Aside0.mk ((by rw [hg]; exact (below_size (by repeat (first | (with_reducible first | exact HB.out | apply below_alloc | apply pw_below_drewN | apply below_drew1) | exact HB.out))) : w.heap.size ≤ gb101)); have n3_ := Aside0.mk ((by rw [hg]; exact (below_size (by repeat (first | (with_reducible first | exact HB.out | apply below_alloc | apply pw_below_drewN | apply below_drew1) | exact HB.out))) : w.heap.size ≤ gb101)); clear HB; have HB := n0_; have BK101 := n1_; have GW101 := n2_; have GE101 := n3_; clear n0_ n1_ n2_ n3_; clear hb hbox hg) | ((with_reducible refine gate_dst (N := 3) rfl ?_); refine box_event ?hg (N := 3) ?hd (cs := #[.string a1_0, .int .i64 a1_1, .int .u64 a1_2, .slice A1_3 l1_3.length c1_3]) (t := 53) ?hr ?_; (case hd => rfl); (case hg => rfl); (case hr => first | (go_simp; done) | (go_simp; rfl)); intro gb102 hg w23 hbox hb; have n0_ := Aside0.mk (blk_below (g := gb101) (o := .cells #[.string a0_0, .int .i64 a0_1, .int .u64 a0_2, .slice A0_3 l0_3.length c0_3] 53 (0, 0)) (by (with_reducible repeat (first | refine blk_drewN ?_ _ | refine blk_drew ?_ | refine blk_alloc ?_ _)); exact BK101.out) hb); have n1_ := Aside0.mk (below_step (by repeat (first | (with_reducible first | exact HB.out | apply below_alloc | apply pw_below_drewN | apply below_drew1 | refine below_set ?_ GE101.out) | exact HB.out)) hb); have n2_ := Aside0.mk (hbox); have n3_ := Aside0.mk ((by rw [hg]; exact (below_size (by repeat (first | (with_reducible first | exact HB.out | apply below_alloc | apply pw_below_drewN | apply below_drew1 | refine below_set ?_ GE101.out) | exact HB.out))) : w.heap.size ≤ gb102)); have n4_ := Aside0.mk ((by rw [hg]; exact (below_size (by repeat (first | (with_reducible first | exact HB.out | apply below_alloc | apply pw_below_drewN | apply below_drew1 | refine below_set ?_ GE101.out) | exact HB.out))) : w.heap.size ≤ gb102)); have n5_ := Aside0.mk ((by rw [hg]; exact Nat.ne_of_lt (blk_lt (g := gb101) (o := .cells #[.string a0_0, .int .i64 a0_1, .int .u64 a0_2, .slice A0_3 l0_3.length c0_3] 53 (0, 0)) (by (with_reducible repeat (first | refine blk_drewN ?_ _ | refine blk_drew ?_ | refine blk_alloc ?_ _)); exact BK101.out)) : gb101 ≠ gb102)); have n6_ := Aside0.mk ((by rw [hg]; exact Nat.ne_of_gt (blk_lt (g := gb101) (o := .cells #[.string a0_0, .int .i64 a0_1, .int .u64 a0_2, .slice A0_3 l0_3.length c0_3] 53 (0, 0)) (by (with_reducible repeat (first | refine blk_drewN ?_ _ | refine blk_drew ?_ | refine blk_alloc ?_ _)); exact BK101.out)) : gb102 ≠ gb101)); clear BK101; clear HB; have BK101 := n0_; have HB := n1_; have BK102 := n2_; have GW102 := n3_; have GE102 := n4_; have NB101_102 := n5_; have NB102_101 := n6_; clear n0_ n1_ n2_ n3_ n4_ n5_ n6_; clear hb hbox hg; have hnb24 := NB101_102.out; have hnc24 := NB102_101.out; have hcz25_0 : w23.cell? ⟨gb101, 0, none⟩ = some (.string a0_0) := (blk_cell BK101.out 0).trans rfl; have hcz25_1 : w23.cell? ⟨gb101, 1, none⟩ = some (.int .i64 a0_1) := (blk_cell BK101.out 1).trans rfl; have hcz25_2 : w23.cell? ⟨gb101, 2, none⟩ = some (.int .u64 a0_2) := (blk_cell BK101.out 2).trans rfl; have hcz25_3 : w23.cell? ⟨gb101, 3, none⟩ = some (.slice A0_3 l0_3.length c0_3) := (blk_cell BK101.out 3).trans rfl; have hfz25_0 := blk_frozen BK101.out 0; have hfz25_1 := blk_frozen BK101.out 1; have hfz25_2 := blk_frozen BK101.out 2; have hfz25_3 := blk_frozen BK101.out 3; have hcz26_0 : w23.cell? ⟨gb102, 0, none⟩ = some (.string a1_0) := (blk_cell BK102.out 0).trans rfl; have hcz26_1 : w23.cell? ⟨gb102, 1, none⟩ = some (.int .i64 a1_1) := (blk_cell BK102.out 1).trans rfl; have hcz26_2 : w23.cell? ⟨gb102, 2, none⟩ = some (.int .u64 a1_2) := (blk_cell BK102.out 2).trans rfl; have hcz26_3 : w23.cell? ⟨gb102, 3, none⟩ = some (.slice A1_3 l1_3.length c1_3) := (blk_cell BK102.out 3).trans rfl; have hfz26_0 := blk_frozen BK102.out 0; have hfz26_1 := blk_frozen BK102.out 1; have hfz26_2 := blk_frozen BK102.out 2; have hfz26_3 := blk_frozen BK102.out 3))
  go_ret
  exact ⟨by first | rfl | (simp [errW_none, errW_some] <;> rfl) | (simp [*, errW_none, errW_some] <;> rfl), by repeat (first | (with_reducible first | exact HB.out | apply below_alloc | apply pw_below_drewN | apply below_drew1 | refine below_set ?_ GE101.out | refine below_set ?_ GE102.out) | exact HB.out)⟩

end Go.Proofs.Ytfpkgdenohcglaa.PZ
