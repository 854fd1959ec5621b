/- Own and printed texts, laid together. -/
import Derived.Test.YtfpkgdenohcglaaCrMG
import Derived.Test.YtfpkgdenohcglaaCrMC
/- The law CertStays walked (printed by gen_crtstays.py). -/
namespace Go.Proofs.Ytfpkgdenohcglaa.Crt
set_option linter.unusedVariables false
set_option linter.unusedSimpArgs false
open Go.RowKit Go.Proofs.Ytfpkgdenohcglaa.Base Go.Proofs.Ytfpkgdenohcglaa.TlvPlain Go.Proofs.Ytfpkgdenohcglaa.Lo Go.Proofs.Ytfpkgdenohcglaa.RdPlain Go.Proofs.Ytfpkgdenohcglaa.Aid Go.Proofs.Ytfpkgdenohcglaa.ShaPlain Go.Proofs.Ytfpkgdenohcglaa.Sha Go.Proofs.Ytfpkgdenohcglaa.Com Go.Proofs.Ytfpkgdenohcglaa.Chn Go.Proofs.Ytfpkgdenohcglaa.Evt Go.Proofs.Ytfpkgdenohcglaa.PZ Go.Proofs.YtfpkgdenohcglaaW.PrintWords Go.Proofs.YtfpkgdenohcglaaW.PrintLast Go.Proofs.YtfpkgdenohcglaaW.PrintMore
attribute [local irreducible] shaB
theorem make_ok {l : List Ent} {i : Int} {c : Cer} (h : makeT l i = (c, 0)) : ∃ (k : Nat) (x : Evn) (hk : k < l.length), i = (k : Int) ∧ redE l[k] = false ∧ endedT (payE l[k]) = some x ∧ (k : Int) < 120 ∧ c = (x.2.2.1, (k : Int), saltE l[k], payE l[k]) := by
  by_cases h0 : i < 0 ∨ (l.length : Int) ≤ i
  · rw [makeT_out h0] at h
    simp at h
  · obtain ⟨k, rfl⟩ : ∃ k : Nat, (k : Int) = i := ⟨i.toNat, by omega⟩
    have hk : k < l.length := by omega
    rw [makeT_in hk] at h
    split at h
    · simp at h
    · next hr =>
      cases hx : endedT (payE l[k]) with
      | none => rw [hx] at h; simp at h
      | some x =>
        rw [hx] at h
        dsimp only at h
        split at h
        · simp at h
        · next h120 =>
          simp only [Prod.mk.injEq, and_true] at h
          exact ⟨k, x, hk, rfl, by simpa using hr, hx, by omega, h.symm⟩
theorem made_may {x : Evn} {k : Nat} {sl : Int} {p : List Int} (hx : endedT p = some x) (hk : (k : Int) < 120) : mayC (x.2.2.1, (k : Int), sl, p) = true := by
  have he : evC (x.2.2.1, (k : Int), sl, p) = some x := by
    unfold evC
    dsimp only
    rw [hx]
    dsimp only
    rw [if_pos rfl]
  unfold mayC
  rw [he]
  simp only [Option.isSome_some, Bool.true_and, Bool.and_eq_true, decide_eq_true_eq]
  exact ⟨by omega, hk⟩
theorem made_check {x : Evn} {k : Nat} {sl : Int} {p : List Int} {l : List Ent} (hx : endedT p = some x) (hk : (k : Int) < 120) (hl : k < l.length) (hc : comE l[k] = comH sl p) : checkT (x.2.2.1, (k : Int), sl, p) l = true := by
  rw [checkT_in (made_may hx hk) hl rfl]
  exact decide_eq_true hc
/-- The chain with one more, that entry redacted. -/
theorem stays_plain {l : List Ent} {k : Nat} (hk : k < l.length) (hr : redE l[k] = false) (salt : Int) (more : List Int) :
    redT (addT l salt more) (k : Int) = ((addT l salt more).set k (cutE l[k]), 0) ∧ (∃ h : k < ((addT l salt more).set k (cutE l[k])).length, ((addT l salt more).set k (cutE l[k]))[k] = cutE l[k]) := by
  have hlen : (addT l salt more).length = l.length + 1 := by unfold addT; simp
  have hg : (addT l salt more)[k]'(by omega) = l[k] := by unfold addT; exact List.getElem_append_left hk
  refine ⟨?_, by rw [List.length_set]; omega, by rw [List.getElem_set_self]⟩
  rw [redT_in _ k (by omega), hg, if_neg (by rw [hr]; decide)]
set_option maxHeartbeats 8000000 in
set_option maxRecDepth 100000 in
theorem stays_no (l : List Ent) (m : Nat) (hl : l.length = m) (A : Option Addr) (c' : Nat) (hc' : m ≤ c') (i : Int) (b : List Int) (nb : Nat) (hnb : b.length = nb) (B2 : Option Addr) (cb2 : Nat) (hcb2 : nb ≤ cb2) (w : World) (hr : Re w A l) (hp : Rb w B2 b) (hm : m ≤ 9223372036854775807) (h : fewT l = false ∨ 300 < nb) :
    Calls Try.prog 9 #[.slice A m c', .int .i64 i, .slice B2 nb cb2] w (RetB w true) := by
  have HFA := Aside0.mk (few_c l m hl hm A c' w hr)
  unfold RetB at HFA ⊢
  obtain ⟨fa, hfa⟩ : ∃ v, fewT l = v := ⟨_, rfl⟩
  rw [hfa] at HFA h
  clear hr hl hm hfa hp hnb hcb2 hc'
  cases fa with
  | false =>
    clear h
    go_enter Try.func9, Try.ntmps9
    go_wp2_with (fail)
    refine HFA.out.mono ?_
    rintro e w1 ⟨rfl, hb⟩
    have HB1 := Aside0.mk hb
    clear hb
    go_wp2_with (fail)
    refine (live25_c _).mono ?_
    rintro e w2 ⟨rfl, hb⟩
    have HB2 := Aside0.mk (below_step HB1.out hb)
    clear hb
    go_wp2_with (fail)
    go_ret
    exact ⟨rfl, HB2.out⟩
  | true =>
    have h2 : 300 < nb := by rcases h with h | h; cases h; exact h
    have q0 : decide ((300 : Int) < (nb : Int)) = true := decide_eq_true (by omega)
    have q1 : decide (300 < nb) = true := decide_eq_true h2
    clear h h2
    go_enter Try.func9, Try.ntmps9
    go_wp2_with (fail)
    refine HFA.out.mono ?_
    rintro e w1 ⟨rfl, hb⟩
    have HB1 := Aside0.mk hb
    clear hb
    go_wp2_with (fail)
    refine (live25_c _).mono ?_
    rintro e w2 ⟨rfl, hb⟩
    have HB2 := Aside0.mk (below_step HB1.out hb)
    clear hb
    go_wp2_with (fail)
    go_ret
    exact ⟨rfl, HB2.out⟩
set_option maxHeartbeats 8000000 in
set_option maxRecDepth 100000 in
theorem stays_main (l : List Ent) (m : Nat) (hl : l.length = m) (A : Option Addr) (c' : Nat) (hc' : m ≤ c') (i : Int) (b : List Int) (nb : Nat) (hnb : b.length = nb) (B2 : Option Addr) (cb2 : Nat) (hcb2 : nb ≤ cb2) (w : World) (hr : Re w A l) (hp : Rb w B2 b) (hm : m ≤ 12) (hu : Lu' l) (sa : ∀ x ∈ l, (payE x).length ≤ 300) (fa : fewT l = true) (h300 : nb ≤ 300) (hub : U8 b) :
    Calls Try.prog 9 #[.slice A m c', .int .i64 i, .slice B2 nb cb2] w (RetB w true) := by
  have HFA := Aside0.mk (few_c l m hl (by omega) A c' w hr)
  have HMK := Aside0.mk (fun V (hV : Below w.heap.size w V) => make_c l m hl (by omega) hu (fun y hy => Nat.le_trans (sa y hy) (by decide)) i A c' V (Kd.C_below hr hV))
  have HAD := Aside0.mk (fun V (hV : Below w.heap.size w V) => add_c l m hl (by omega) hu A c' hc' 77 (by decide) (by decide) b hub (by omega) B2 cb2 (by rw [hnb]; exact hcb2) V (Kd.C_below hr hV) (Kd.C_below hp hV))
  have HPLAIN := Aside0.mk (fun c (h : makeT l i = (c, 0)) => make_ok h)
  have HF := Aside0.mk (And.intro hl (And.intro hm (And.intro hu sa)))
  have HRE := Aside0.mk hr
  have HUB := Aside0.mk (And.intro hub (show b.length ≤ 300 by omega))
  unfold RetB at HFA ⊢
  unfold RetC at HMK
  unfold RetE at HAD
  rw [hnb] at HAD
  rw [fa] at HFA
  have hml := makeT_len l i (fun y hy => sa y hy)
  obtain ⟨⟨⟨mr, ms, ml, mp⟩, me⟩, hmk⟩ : ∃ v, makeT l i = v := ⟨_, rfl⟩
  rw [hmk] at HMK hml
  have HMKE := Aside0.mk hmk
  dsimp only at HMK hml
  have HML := Aside0.mk hml
  have q0 : decide ((300 : Int) < (nb : Int)) = false := decide_eq_false (by omega)
  have q1 : decide (300 < nb) = false := decide_eq_false (by omega)
  have hu53 := Try.underlying53
  have hu24 := Try.underlying23
  clear hl hm hu sa fa h300 hub hr hp hnb hcb2 hml hmk hc'
  go_enter Try.func9, Try.ntmps9
  go_wp2_with (fail)
  refine HFA.out.mono ?_
  rintro e w1 ⟨rfl, hb⟩
  have HB1 := Aside0.mk hb
  clear hb
  go_wp2_with (fail)
  refine (HMK.out _ HB1.out).mono ?_
  rintro e w2 ⟨v, rfl, ho, hb⟩
  obtain ⟨A7, c7, rfl, hc7, hr7⟩ := Kd.R_reads ho
  have HB2 := Aside0.mk (below_step HB1.out hb)
  have HP2 := Aside0.mk (And.intro hc7 (show Rb w2 A7 mp from hr7))
  clear ho hb hc7 hr7 q0 q1
  go_upto_region 4 with (fail)
  have hb := below_alloc (Below.refl w2.heap.size w2) (.cells #[.string mr, .int .i64 ms, .int .u64 ml, .slice A7 mp.length c7] 53)
  have H73 := Aside0.mk (show Blk (w2.alloc (.cells #[.string mr, .int .i64 ms, .int .u64 ml, .slice A7 mp.length c7] 53)) w2.heap.size 53 #[.string mr, .int .i64 ms, .int .u64 ml, .slice A7 mp.length c7] from blk_new _ _)
  have HB3 := Aside0.mk (below_step HB2.out hb)
  have HP3 := Aside0.mk (show Rb (w2.alloc (.cells #[.string mr, .int .i64 ms, .int .u64 ml, .slice A7 mp.length c7] 53)) A7 mp from Kd.C_below HP2.out.2 hb)
  obtain ⟨w3, hw_⟩ : ∃ V, w2.alloc (.cells #[.string mr, .int .i64 ms, .int .u64 ml, .slice A7 mp.length c7] 53) = V := ⟨_, rfl⟩
  obtain ⟨g7, hg_⟩ : ∃ V, w2.heap.size = V := ⟨_, rfl⟩
  clear hb
  rw [hw_] at H73 HB3 HP3
  rw [hg_] at H73
  rw [hw_, hg_]
  clear hw_ hg_
  go_wp2_with (fail)
  refine (num25_c me _).mono ?_
  rintro e w4 ⟨rfl, rfl⟩
  by_cases hme : me = 0
  · subst hme
    obtain ⟨k, x, hk, rfl, hrd, hx, h120, hcer⟩ := HPLAIN.out _ HMKE.out
    obtain ⟨ad, P, C, B, cb, rfl, hat, hC⟩ := re_at HRE.out k hk
    have hE := HF.out.2.2.1 _ (List.getElem_mem hk)
    have hpl := HF.out.2.2.2 _ (List.getElem_mem hk)
    have HST := Aside0.mk (stays_plain hk hrd 77 b)
    have HCH := Aside0.mk (fun (h : comE l[k] = comH (saltE l[k]) (payE l[k])) => made_check (l := l) hx h120 hk h)
    have HCH2 := Aside0.mk (fun (l2 : List Ent) (h2 : k < l2.length) (h : comE l2[k] = comH (saltE l[k]) (payE l[k])) => made_check (l := l2) hx h120 h2 h)
    obtain ⟨y, hy⟩ : ∃ y, l[k] = y := ⟨_, rfl⟩
    rw [hy] at hat hC hE hpl HST HCH HCH2 hcer
    simp only [Prod.mk.injEq] at hcer
    obtain ⟨rfl, rfl, rfl, rfl⟩ := hcer
    have HCU := Aside0.mk (show CerU (x.2.2.1, (k : Int), saltE y, payE y) from ⟨hE.s0, hE.s1, hE.u, Nat.le_trans hpl (by decide)⟩)
    have HEF := Aside0.mk (entF hC.fp.lenC hC.fc.lenC hat)
    have HIC := Aside0.mk hC.fc.blk
    have HOF := Aside0.mk (fun V (hV : Below w.heap.size w V) => rcof_c (saltE y) hE.s0 hE.s1 B cb (payE y) V (Kd.C_below hC.r hV) hC.hc hE.u (Nat.le_trans hpl (by decide)))
    rw [← comH_eq] at HOF
    obtain ⟨HV, hHV⟩ := sumC (comH (saltE y) (payE y)) (comH_len _ _)
    rw [hHV.v] at HOF
    have HEQ := Aside0.mk (run_eq_sum (comE y) (comH (saltE y) (payE y)) hE.cl (comH_len _ _))
    rw [hC.fc.v, hHV.v] at HEQ
    have hguard := guard_32
    have HALL := Aside0.mk (fun V (hV : Below w.heap.size w V) => show AtC V ((ad.add (k * 68)).add 33) C ∧ V.cell? ⟨(ad.add (k * 68)).block, (ad.add (k * 68)).off + 65, none⟩ = some (.int .u64 (saltE y)) ∧ V.cell? ⟨(ad.add (k * 68)).block, (ad.add (k * 68)).off + 66, none⟩ = some (.slice B (payE y).length cb) from ⟨(HEF.out.below hV).fc, (HEF.out.below hV).sl, (HEF.out.below hV).py⟩)
    have HCOM := Aside0.mk (show (cutE y).2.2.1 = comE y from rfl)
    have HEY := Aside0.mk hE
    obtain ⟨eb, heb⟩ : ∃ t, decide (comE y = comH (saltE y) (payE y)) = t := ⟨_, rfl⟩
    rw [heb] at HEQ
    have HEB := Aside0.mk heb
    have p0 : (0 : Int) ≤ (k : Int) := by omega
    have p1 : (k : Int) < (m : Int) := by have := HF.out.1; omega
    have p2 : (k : Int) ≤ 12 := by have := HF.out.1; have := HF.out.2.1; omega
    have d0 : decide ((k : Int) < 0) = false := decide_eq_false (by omega)
    have d1 : decide ((m : Int) ≤ (k : Int)) = false := decide_eq_false (by omega)
    have d2 : decide (m ≤ k) = false := decide_eq_false (by omega)
    obtain ⟨sl, hsl⟩ : ∃ t, saltE y = t := ⟨_, rfl⟩
    obtain ⟨mp, hmp⟩ : ∃ t, payE y = t := ⟨_, rfl⟩
    obtain ⟨mr, hmr⟩ : ∃ t, x.2.2.1 = t := ⟨_, rfl⟩
    rw [hsl] at HALL HOF HCH HCH2 HCU H73 HEB
    rw [hmp] at HALL HOF HCH HCH2 HCU HP3 HP2 H73 HEB
    rw [hmr] at HCH HCH2 HCU H73
    rw [hsl, hmp] at *
    clear heb hat hC hE hpl hx h120 hrd hHV
    go_wp2_with (fail)
    refine wp_region_held_drew (S := fun V => AtC V ((ad.add (k * 68)).add 33) C ∧ V.cell? ⟨(ad.add (k * 68)).block, (ad.add (k * 68)).off + 65, none⟩ = some (.int .u64 sl) ∧ V.cell? ⟨(ad.add (k * 68)).block, (ad.add (k * 68)).off + 66, none⟩ = some (.slice B mp.length cb)) (by kernel_rfl) (HALL.out _ (below_drew1 HB3.out)) (fun hHeld => ?_)
    (refine wpAnyH_take (i := 0) (v := ?_) rfl (by kernel_rfl) (by kernel_rfl) (by kernel_rfl) (fun _ _ _ h => h) (Or.inl ⟨by rfl, ?_⟩) (by assumption) ?_; (case' refine_2 => (intro w hSw; go_simp; try with_reducible rfl)); (try simp only [Act.put, List.getElem_toArray, List.getElem_cons_zero, List.getElem_cons_succ, List.setIfInBounds_toArray, List.set_cons_zero, List.set_cons_succ]))
    (refine wpAnyH_take (i := 1) (v := ?_) rfl (by kernel_rfl) (by kernel_rfl) (by kernel_rfl) (fun _ _ _ h => h) (Or.inl ⟨by rfl, ?_⟩) (by assumption) ?_; (case' refine_2 => (intro w hSw; go_simp; try with_reducible rfl)); (try simp only [Act.put, List.getElem_toArray, List.getElem_cons_zero, List.getElem_cons_succ, List.setIfInBounds_toArray, List.set_cons_zero, List.set_cons_succ]))
    (refine wpAnyH_take (i := 2) (v := ?_) rfl (by kernel_rfl) (by kernel_rfl) (by kernel_rfl) (fun _ _ _ h => h) (Or.inl ⟨by rfl, ?_⟩) (by assumption) ?_; (case' refine_2 => (intro w hSw; go_simp; try with_reducible rfl)); (try simp only [Act.put, List.getElem_toArray, List.getElem_cons_zero, List.getElem_cons_succ, List.setIfInBounds_toArray, List.set_cons_zero, List.set_cons_succ]))
    (refine wpAnyH_take (i := 3) (v := ?_) rfl (by kernel_rfl) (by kernel_rfl) (by kernel_rfl) (fun _ _ _ h => h) (Or.inl ⟨by rfl, ?_⟩) (by assumption) ?_; (case' refine_2 => (intro w hSw; go_simp; try with_reducible rfl)); (try simp only [Act.put, List.getElem_toArray, List.getElem_cons_zero, List.getElem_cons_succ, List.setIfInBounds_toArray, List.set_cons_zero, List.set_cons_succ]))
    (refine wpAnyH_take (i := 4) rfl (by kernel_rfl) (by kernel_rfl) (by kernel_rfl) (fun _ _ _ h => h) (yieldsIf_load_at (by rfl) _ _ rfl ((ad.add (k * 68)).add 33) rfl C _ (fun _ h => h.1) (by assumption) rfl HIC.out) (by assumption) ?_; (try simp only [Act.put, List.getElem_toArray, List.getElem_cons_zero, List.getElem_cons_succ, List.setIfInBounds_toArray, List.set_cons_zero, List.set_cons_succ]))
    (refine wpAnyH_take (i := 5) (v := ?_) rfl (by kernel_rfl) (by kernel_rfl) (by kernel_rfl) (fun _ _ _ h => h) (Or.inl ⟨by rfl, ?_⟩) (by assumption) ?_; (case' refine_2 => (intro w hSw; go_simp; try with_reducible rfl)); (try simp only [Act.put, List.getElem_toArray, List.getElem_cons_zero, List.getElem_cons_succ, List.setIfInBounds_toArray, List.set_cons_zero, List.set_cons_succ]))
    (refine wpAnyH_take (i := 6) (v := ?_) rfl (by kernel_rfl) (by kernel_rfl) (by kernel_rfl) (fun _ _ _ h => h) (Or.inl ⟨by rfl, ?_⟩) (by assumption) ?_; (case' refine_2 => (intro w hSw; go_simp; try with_reducible rfl)); (try simp only [Act.put, List.getElem_toArray, List.getElem_cons_zero, List.getElem_cons_succ, List.setIfInBounds_toArray, List.set_cons_zero, List.set_cons_succ]))
    (refine wpAnyH_take (i := 7) (v := ?_) rfl (by kernel_rfl) (by kernel_rfl) (by kernel_rfl) (fun _ _ _ h => h) (Or.inl ⟨by rfl, ?_⟩) (by assumption) ?_; (case' refine_2 => (intro w hSw; go_simp; try with_reducible rfl)); (try simp only [Act.put, List.getElem_toArray, List.getElem_cons_zero, List.getElem_cons_succ, List.setIfInBounds_toArray, List.set_cons_zero, List.set_cons_succ]))
    (refine wpAnyH_take (i := 8) (v := ?_) rfl (by kernel_rfl) (by kernel_rfl) (by kernel_rfl) (fun _ _ _ h => h) (Or.inl ⟨by rfl, ?_⟩) (by assumption) ?_; (case' refine_2 => (intro w hSw; go_simp; try with_reducible rfl)); (try simp only [Act.put, List.getElem_toArray, List.getElem_cons_zero, List.getElem_cons_succ, List.setIfInBounds_toArray, List.set_cons_zero, List.set_cons_succ]))
    (refine wpAnyH_take (i := 9) (v := ?_) rfl (by kernel_rfl) (by kernel_rfl) (by kernel_rfl) (fun _ _ _ h => h) (Or.inl ⟨by rfl, ?_⟩) (by assumption) ?_; (case' refine_2 => (intro w hSw; go_simp; try with_reducible rfl)); (try simp only [Act.put, List.getElem_toArray, List.getElem_cons_zero, List.getElem_cons_succ, List.setIfInBounds_toArray, List.set_cons_zero, List.set_cons_succ]))
    (refine wpAnyH_take (i := 10) (v := ?_) rfl (by kernel_rfl) (by kernel_rfl) (by kernel_rfl) (fun _ _ _ h => h) (Or.inl ⟨by rfl, ?_⟩) (by assumption) ?_; (case' refine_2 => (intro w hSw; go_simp; try with_reducible rfl)); (try simp only [Act.put, List.getElem_toArray, List.getElem_cons_zero, List.getElem_cons_succ, List.setIfInBounds_toArray, List.set_cons_zero, List.set_cons_succ]))
    (refine wpAnyH_take (i := 11) (v := ?_) rfl (by kernel_rfl) (by kernel_rfl) (by kernel_rfl) (fun _ _ _ h => h) (Or.inl ⟨by rfl, ?_⟩) (by assumption) ?_; (case' refine_2 => (intro w hSw; go_simp; try with_reducible rfl)); (try simp only [Act.put, List.getElem_toArray, List.getElem_cons_zero, List.getElem_cons_succ, List.setIfInBounds_toArray, List.set_cons_zero, List.set_cons_succ]))
    (refine wpAnyH_take (i := 12) (v := ?_) rfl (by kernel_rfl) (by kernel_rfl) (by kernel_rfl) (fun _ _ _ h => h) (Or.inl ⟨by rfl, ?_⟩) (by assumption) ?_; (case' refine_2 => (intro w hSw; go_simp; try with_reducible rfl)); (try simp only [Act.put, List.getElem_toArray, List.getElem_cons_zero, List.getElem_cons_succ, List.setIfInBounds_toArray, List.set_cons_zero, List.set_cons_succ]))
    (refine wpAnyH_take (i := 13) (v := ?_) rfl (by kernel_rfl) (by kernel_rfl) (by kernel_rfl) (fun _ _ _ h => h) (Or.inl ⟨by rfl, ?_⟩) (by assumption) ?_; (case' refine_2 => (intro w hSw; go_simp; try with_reducible rfl)); (try simp only [Act.put, List.getElem_toArray, List.getElem_cons_zero, List.getElem_cons_succ, List.setIfInBounds_toArray, List.set_cons_zero, List.set_cons_succ]))
    (refine wpAnyH_take (i := 14) (v := ?_) rfl (by kernel_rfl) (by kernel_rfl) (by kernel_rfl) (fun _ _ _ h => h) (Or.inl ⟨by rfl, ?_⟩) (by assumption) ?_; (case' refine_2 => (intro w hSw; go_simp; try with_reducible rfl)); (try simp only [Act.put, List.getElem_toArray, List.getElem_cons_zero, List.getElem_cons_succ, List.setIfInBounds_toArray, List.set_cons_zero, List.set_cons_succ]))
    (refine wpAnyH_ready (rs := [15]) (by kernel_rfl) (by simp) (AllReadyH.cons rfl (fun K hK => ?_) AllReadyH.nil); go_simp)
    refine (HOF.out _ (below_drew1 HB3.out)).mono ?_
    rintro e w5 ⟨rfl, hb⟩
    have HB5 := Aside0.mk (below_step HB3.out (below_drew_of hb))
    have H75 := Aside0.mk (H73.out.below (below_drew_of hb))
    have HP5 := Aside0.mk (Kd.C_below HP3.out (below_drew_of hb))
    clear hb
    (refine Shut.out hK _ _ (HALL.out _ HB5.out) (fun hHeld => ?_); clear hK K; (try simp only [Act.put, List.getElem_toArray, List.getElem_cons_zero, List.getElem_cons_succ, List.setIfInBounds_toArray, List.set_cons_zero, List.set_cons_succ]))
    have heq := HEQ.out
    (refine wpAnyH_take (i := 16) (v := ?_) rfl (by kernel_rfl) (by kernel_rfl) (by kernel_rfl) (fun _ _ _ h => h) (Or.inl ⟨by rfl, ?_⟩) (by assumption) ?_; (case' refine_2 => (intro w hSw; go_simp; try with_reducible rfl)); (try simp only [Act.put, List.getElem_toArray, List.getElem_cons_zero, List.getElem_cons_succ, List.setIfInBounds_toArray, List.set_cons_zero, List.set_cons_succ]))
    refine wpAnyH_done (by kernel_rfl) ?_ _
    clear heq hHeld
    cases eb with
    | false =>
      go_wp2_with (fail)
      refine (live25_c _).mono ?_
      rintro e w9 ⟨rfl, hb⟩
      have HB9 := Aside0.mk (below_step HB5.out hb)
      clear hb
      go_wp2_with (fail)
      go_ret
      exact ⟨rfl, HB9.out⟩
    | true =>
      have hcom := of_decide_eq_true HEB.out
      go_wp2_with (fail)
      refine (HAD.out _ HB5.out).mono ?_
      rintro e w6 ⟨v, rfl, hrw, hb⟩
      obtain ⟨A6, c6, rfl, hc6, hr6⟩ := hrw.reads
      have HB6 := Aside0.mk (below_step HB5.out hb)
      have H76 := Aside0.mk (H75.out.below hb)
      have HP6 := Aside0.mk (Kd.C_below HP5.out hb)
      have HLEN := Aside0.mk (show (addT l 77 b).length = m + 1 by unfold addT; rw [List.length_append, HF.out.1]; rfl)
      have HR6 := Aside0.mk (And.intro hc6 hr6)
      rw [HLEN.out] at HR6
      rw [HLEN.out]
      have HRED := Aside0.mk (redact_in (addT l 77 b) (m + 1) HLEN.out (by have := HF.out.2.1; omega) k (by omega) A6 c6 HR6.out.1 w6 HR6.out.2)
      unfold RetR at HRED
      rw [HST.out.1] at HRED
      have HADU := Aside0.mk (show Lu' (addT l 77 b) from by
        intro q hq
        unfold addT at hq
        rcases List.mem_append.1 hq with h | h
        · exact HF.out.2.2.1 q h
        · rw [List.mem_singleton.1 h]; exact newE_u l (by decide) (by decide) HUB.out.1)
      clear hrw hb hc6 hr6
      go_wp2_with (fail)
      refine HRED.out.mono ?_
      rintro e w7 ⟨v, rfl, hrw, hb⟩
      obtain ⟨A9, c9, rfl, hc9, hr9⟩ := hrw.reads
      have HB7 := Aside0.mk (below_step HB6.out hb)
      have H77 := Aside0.mk (H76.out.below hb)
      have HP7 := Aside0.mk (Kd.C_below HP6.out hb)
      have HR9 := Aside0.mk (show Re w7 A9 ((addT l 77 b).set k (cutE y)) from hr9)
      have HL2 := Aside0.mk (show ((addT l 77 b).set k (cutE y)).length = m + 1 by rw [List.length_set]; exact HLEN.out)
      have HLU2 := Aside0.mk (show Lu' ((addT l 77 b).set k (cutE y)) from by
        intro q hq
        rcases List.mem_or_eq_of_mem_set hq with h | h
        · exact HADU.out q h
        · rw [h]; exact cutE_u HEY.out)
      have HCK2 := Aside0.mk (HCH2.out ((addT l 77 b).set k (cutE y)) HST.out.2.1 (by rw [HST.out.2.2]; exact hcom))
      have HCK1 := Aside0.mk (HCH.out hcom)
      rw [show (((addT l 77 b).set k (cutE y), (0 : Int)) : List Ent × Int).1.length = m + 1 from HL2.out]
      clear hrw hb hc9 hr9 hcom
      have x0 := H77.out.cell 0
      have x1 := H77.out.cell 1
      have x2 := H77.out.cell 2
      have x3 := H77.out.cell 3
      simp only [List.getElem?_toArray, List.getElem?_cons_zero, List.getElem?_cons_succ] at x0 x1 x2 x3
      go_wp2_with (fail)
      refine (num25_c 0 _).mono ?_
      rintro e w8 ⟨rfl, rfl⟩
      go_wp2_with (fail)
      refine (check_c (mr, (k : Int), sl, mp) HCU.out l m HF.out.1 (by have := HF.out.2.1; omega) HF.out.2.2.1 A7 c7 HP2.out.1 (some ad) c' _ (Kd.C_below HRE.out HB7.out) HP7.out).mono ?_
      rw [HCK1.out]
      rintro e w9 ⟨rfl, hb⟩
      have HB9 := Aside0.mk (below_step HB7.out hb)
      have H79 := Aside0.mk (H77.out.below hb)
      have HP9 := Aside0.mk (Kd.C_below HP7.out hb)
      have HR99 := Aside0.mk (Kd.C_below HR9.out hb)
      clear hb x0 x1 x2 x3
      have x0 := H79.out.cell 0
      have x1 := H79.out.cell 1
      have x2 := H79.out.cell 2
      have x3 := H79.out.cell 3
      simp only [List.getElem?_toArray, List.getElem?_cons_zero, List.getElem?_cons_succ] at x0 x1 x2 x3
      go_wp2_with (fail)
      refine (check_c (mr, (k : Int), sl, mp) HCU.out ((addT l 77 b).set k (cutE y)) (m + 1) HL2.out (by have := HF.out.2.1; omega) HLU2.out A7 c7 HP2.out.1 A9 c9 _ (by have h := HR99.out; exact h) HP9.out).mono ?_
      rw [HCK2.out]
      rintro e wa ⟨rfl, hb⟩
      have HBa := Aside0.mk (below_step HB9.out hb)
      clear hb x0 x1 x2 x3
      go_wp2_with (fail)
      refine (live25_c _).mono ?_
      rintro e wb ⟨rfl, hb⟩
      have HBb := Aside0.mk (below_step HBa.out hb)
      clear hb
      go_wp2_with (fail)
      go_ret
      exact ⟨rfl, HBb.out⟩
  · have q2 : (me == 0) = false := by simp [hme]
    have q3 : (me != 0) = true := by simp [hme]
    clear hme
    go_wp2_with (fail)
    refine (live25_c _).mono ?_
    rintro e w9 ⟨rfl, hb⟩
    have HB9 := Aside0.mk (below_step HB3.out hb)
    clear hb
    go_wp2_with (fail)
    go_ret
    exact ⟨rfl, HB9.out⟩
end Go.Proofs.Ytfpkgdenohcglaa.Crt
/- The law CertStays, as the row asks for it. -/
namespace Go.Proofs.Ytfpkgdenohcglaa.Crt
set_option linter.unusedVariables false
open Go.RowKit Go.Proofs.Ytfpkgdenohcglaa.Base Go.Proofs.Ytfpkgdenohcglaa.TlvPlain Go.Proofs.Ytfpkgdenohcglaa.ShaPlain Go.Proofs.Ytfpkgdenohcglaa.Sha Go.Proofs.Ytfpkgdenohcglaa.Com Go.Proofs.Ytfpkgdenohcglaa.Chn Go.Proofs.Ytfpkgdenohcglaa.Aid Go.Proofs.YtfpkgdenohcglaaW.PrintWords
theorem staysWalk (w : World) (A : Option Addr) (c : Nat) (l : List Ent) (hr : Re w A l) (hc : l.length ≤ c) (ok : ∀ x ∈ l, okE x) (i : Int) (_ : (Lit.int .i64 i).wf = true) (A' : Option Addr) (c' : Nat) (b : List Int) (hr2 : Kd.C (Kd.int .u8) w A' b.length b) (hc2 : b.length ≤ c') (ok2 : ∀ y ∈ b, (Lit.int .u8 y).wf = true) :
    Calls Try.prog 9 #[.slice A l.length c, .int .i64 i, .slice A' b.length c'] w fun e w' => e = .returned (.bool true) ∧ Below w.heap.size w w' := by
  have l1 : l.length ≤ 9223372036854775807 := hr.2.1
  by_cases fa : fewT l = true
  · by_cases hb : b.length ≤ 300
    · obtain ⟨ha, sa⟩ := fewT_yes fa
      exact stays_main l _ rfl A c hc i b _ rfl A' c' hc2 w hr hr2 ha (lu_of hr ok) sa fa hb (fun y hy => byte_wf (ok2 y hy))
    · exact stays_no l _ rfl A c hc i b _ rfl A' c' hc2 w hr hr2 l1 (.inr (by omega))
  · exact stays_no l _ rfl A c hc i b _ rfl A' c' hc2 w hr hr2 l1 (.inl (by simpa using fa))
end Go.Proofs.Ytfpkgdenohcglaa.Crt
