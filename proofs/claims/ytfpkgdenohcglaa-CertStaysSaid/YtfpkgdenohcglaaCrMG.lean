/- Own and printed texts, laid together. -/
import Derived.Test.YtfpkgdenohcglaaCrMF
/- The law CertMakes walked (printed by gen_crtmakesl.py). -/
namespace Go.Proofs.Ytfpkgdenohcglaa.Crt
set_option linter.unusedVariables false
set_option linter.unusedSimpArgs false
open Go.RowKit Go.Proofs.Ytfpkgdenohcglaa.Base Go.Proofs.Ytfpkgdenohcglaa.TlvPlain Go.Proofs.Ytfpkgdenohcglaa.Lo Go.Proofs.Ytfpkgdenohcglaa.RdPlain Go.Proofs.Ytfpkgdenohcglaa.Aid Go.Proofs.Ytfpkgdenohcglaa.ShaPlain Go.Proofs.Ytfpkgdenohcglaa.Sha Go.Proofs.Ytfpkgdenohcglaa.Com Go.Proofs.Ytfpkgdenohcglaa.Chn Go.Proofs.Ytfpkgdenohcglaa.Evt Go.Proofs.Ytfpkgdenohcglaa.PZ Go.Proofs.YtfpkgdenohcglaaW.PrintWords Go.Proofs.YtfpkgdenohcglaaW.PrintLast Go.Proofs.YtfpkgdenohcglaaW.PrintMore
attribute [local irreducible] shaB
theorem eqEv (d : Nat) (w : World) (x0 y0 : Int) (x1 y1 : Int) (x2 y2 : ByteArray) (x3 y3 : ByteArray) :
    (Op.equalIn (d + 2) 60 (.agg #[.int .i64 x0, .int .i64 x1, .string x2, .string x3]) (.agg #[.int .i64 y0, .int .i64 y1, .string y2, .string y3])).run Try.prog w = .ok (x0 == y0 && (x1 == y1 && (x2.toList == y2.toList && (x3.toList == y3.toList)))) w := by
  refine eqA_of Try.underlying60 (by kernel_rfl) ?_
  refine eqf_cons (by rfl) (by go_simp; rfl) (by go_simp; rfl) (by go_simp) ?_
  refine eqf_cons (by rfl) (by go_simp; rfl) (by go_simp; rfl) (by go_simp) ?_
  refine eqf_cons (by rfl) (by go_simp; rfl) (by go_simp; rfl) (by go_simp) ?_
  exact eqf_last (by rfl) (by go_simp; rfl) (by go_simp; rfl) (by go_simp)
theorem run_eq_ev (x0 x1 : Int) (x2 x3 : ByteArray) (w : World) : (Op.equalIn 10000 60 (.agg #[.int .i64 x0, .int .i64 x1, .string x2, .string x3]) (.agg #[.int .i64 x0, .int .i64 x1, .string x2, .string x3])).run Try.prog w = .ok true w := by
  rw [eqEv 9998 w x0 x0 x1 x1 x2 x2 x3 x3]
  simp
def hugeB (c : Cer) : Bool := decide (300 < c.2.2.2.length) || decide (100 < c.1.size)
theorem huge_c (c : Cer) (w : World) (A : Option Addr) (cb : Nat) (hr : Rb w A c.2.2.2) (hc : c.2.2.2.length ≤ cb) :
    Calls Try.prog 28 #[.agg #[.string c.1, .int .i64 c.2.1, .int .u64 c.2.2.1, .slice A c.2.2.2.length cb]] w fun e w' => e = .returned (.bool (hugeB c)) ∧ Below w.heap.size w w' := by
  refine hanaperlaw25_huge.calls c.1 c.2.1 c.2.2.1 A cb c.2.2.2 _ w hr hc ?_
  unfold hanaperlaw25_huge.f hugeB
  by_cases h : (c.2.2.2.length : Int) > 300
  · rw [if_pos h, decide_eq_true (show 300 < c.2.2.2.length by omega), Bool.true_or]
  · rw [if_neg h, decide_eq_false (show ¬ 300 < c.2.2.2.length by omega), Bool.false_or]
    congr 1
    exact decide_eq_decide.2 (by omega)
theorem makeT_len (l : List Ent) (i : Int) (sa : ∀ x ∈ l, (payE x).length ≤ 300) : (makeT l i).1.2.2.2.length ≤ 300 := by
  unfold makeT
  split
  · exact Nat.zero_le _
  · split
    · exact Nat.zero_le _
    · next e he =>
      split
      · exact Nat.zero_le _
      · split
        · exact Nat.zero_le _
        · split
          · exact Nat.zero_le _
          · exact sa e (List.mem_of_getElem? he)
theorem rsame_c (mr : ByteArray) (ms ml : Int) (mp : List Int) (hl : mp.length ≤ 1000000) (A A' : Option Addr) (c c' : Nat) (w : World) (hr : Rb w A mp) (hc : mp.length ≤ c) (hr' : Rb w A' mp) (hc' : mp.length ≤ c') :
    Calls Try.prog 34 #[.agg #[.string mr, .int .i64 ms, .int .u64 ml, .slice A mp.length c], .agg #[.string mr, .int .i64 ms, .int .u64 ml, .slice A' mp.length c']] w fun e w' => e = .returned (.bool true) ∧ Below w.heap.size w w' := by
  have hev : Ev (fun k => hanaperref25_Same.f k mr ms ml mp mr ms ml mp) true := by
    unfold hanaperref25_Same.f
    refine pos rfl (pos rfl (pos rfl (evBind (same_ev mp mp (by omega)) (now ?_))))
    exact decide_eq_true rfl
  obtain ⟨k, h⟩ := hev.rounds
  exact hanaperref25_Same.calls k mr ms ml A c mp mr ms ml A' c' mp true w hr hc hr' hc' h
set_option maxHeartbeats 8000000 in
set_option maxRecDepth 100000 in
theorem makes_no (l : List Ent) (m : Nat) (hl : l.length = m) (A : Option Addr) (c' : Nat) (i : Int) (c : Cer) (B : Option Addr) (cb : Nat) (hcb : c.2.2.2.length ≤ cb) (w : World) (hr : Re w A l) (hp : Rb w B c.2.2.2) (hm : m ≤ 9223372036854775807) (h : fewT l = false ∨ hugeB c = true) :
    Calls Try.prog 6 #[.slice A m c', .int .i64 i, .agg #[.string c.1, .int .i64 c.2.1, .int .u64 c.2.2.1, .slice B c.2.2.2.length cb]] w (RetB w true) := by
  unfold RetB
  have HHU := Aside0.mk (fun V (hV : Below w.heap.size w V) => huge_c c V B cb (Kd.C_below hp hV) hcb)
  have HFA := Aside0.mk (fun V (hV : Below w.heap.size w V) => few_c l m hl hm A c' V (Kd.C_below hr hV))
  unfold RetB at HFA
  obtain ⟨fa, hfa⟩ : ∃ v, fewT l = v := ⟨_, rfl⟩
  obtain ⟨hb_, hhb⟩ : ∃ v, hugeB c = v := ⟨_, rfl⟩
  rw [hfa] at HFA h
  rw [hhb] at HHU h
  clear hfa hhb
  obtain ⟨rc, sq, sl, py⟩ := c
  dsimp only at HHU hcb hp ⊢
  obtain ⟨n, hn⟩ : ∃ t, py.length = t := ⟨_, rfl⟩
  rw [hn] at HHU
  rw [hn]
  have HB1 := Aside0.mk (below_alloc (Below.refl w.heap.size w) (.cells #[.string rc, .int .i64 sq, .int .u64 sl, .slice B n cb] 53))
  have HK1 := Aside0.mk (show Blk (w.alloc (.cells #[.string rc, .int .i64 sq, .int .u64 sl, .slice B n cb] 53)) w.heap.size 53 #[.string rc, .int .i64 sq, .int .u64 sl, .slice B n cb] from blk_new _ _)
  have hu53 := Try.underlying53
  have hu60 := Try.underlying60
  clear hr hl hm hcb hp hn
  go_enter Try.func6, Try.ntmps6
  go_upto_region 1 with (fail)
  obtain ⟨W1, hW⟩ : ∃ V, w.alloc (.cells #[.string rc, .int .i64 sq, .int .u64 sl, .slice B n cb] 53) = V := ⟨_, rfl⟩
  rw [hW] at HB1 HK1
  rw [hW]
  clear hW
  go_wp2_with (fail)
  refine (HFA.out _ HB1.out).mono ?_
  rintro e w2 ⟨rfl, hb⟩
  have HB2 := Aside0.mk (below_step HB1.out hb)
  have HK2 := Aside0.mk (HK1.out.below hb)
  clear hb
  have z0 := HK2.out.cell 0
  have z1 := HK2.out.cell 1
  have z2 := HK2.out.cell 2
  have z3 := HK2.out.cell 3
  simp only [List.getElem?_toArray, List.getElem?_cons_zero, List.getElem?_cons_succ] at z0 z1 z2 z3
  cases fa with
  | false =>
    clear h
    go_wp2_with (fail)
    refine (live25_c _).mono ?_
    rintro e w9 ⟨rfl, hb⟩
    have HB9 := Aside0.mk (below_step HB2.out hb)
    clear hb
    go_wp2_with (fail)
    go_ret
    exact ⟨rfl, HB9.out⟩
  | true =>
    have h2 : hb_ = true := by rcases h with h | h; cases h; exact h
    subst h2
    clear h
    go_wp2_with (fail)
    refine (HHU.out _ HB2.out).mono ?_
    rintro e w3 ⟨rfl, hb⟩
    have HB3 := Aside0.mk (below_step HB2.out hb)
    clear hb z0 z1 z2 z3
    go_wp2_with (fail)
    refine (live25_c _).mono ?_
    rintro e w9 ⟨rfl, hb⟩
    have HB9 := Aside0.mk (below_step HB3.out hb)
    clear hb
    go_wp2_with (fail)
    go_ret
    exact ⟨rfl, HB9.out⟩
set_option maxHeartbeats 8000000 in
set_option maxRecDepth 100000 in
theorem makes_main (l : List Ent) (m : Nat) (hl : l.length = m) (A : Option Addr) (c' : Nat) (i : Int) (c : Cer) (B : Option Addr) (cb : Nat) (hcb : c.2.2.2.length ≤ cb) (w : World) (hr : Re w A l) (hp : Rb w B c.2.2.2) (hm : m ≤ 12) (hu : Lu' l) (sa : ∀ x ∈ l, (payE x).length ≤ 300) (fa : fewT l = true) (hcu : CerU c) (hh : hugeB c = false) :
    Calls Try.prog 6 #[.slice A m c', .int .i64 i, .agg #[.string c.1, .int .i64 c.2.1, .int .u64 c.2.2.1, .slice B c.2.2.2.length cb]] w (RetB w true) := by
  unfold RetB
  have HHU := Aside0.mk (fun V (hV : Below w.heap.size w V) => huge_c c V B cb (Kd.C_below hp hV) hcb)
  have HFA := Aside0.mk (fun V (hV : Below w.heap.size w V) => few_c l m hl (by omega) A c' V (Kd.C_below hr hV))
  have HMK := Aside0.mk (fun V (hV : Below w.heap.size w V) => make_c l m hl (by omega) hu (fun y hy => Nat.le_trans (sa y hy) (by decide)) i A c' V (Kd.C_below hr hV))
  have HRM := Aside0.mk (fun V (hV : Below w.heap.size w V) => rmake_c l m hl (by omega) hu (fun y hy => Nat.le_trans (sa y hy) (by decide)) i A c' V (Kd.C_below hr hV))
  have HEV := Aside0.mk (fun V (hV : Below w.heap.size w V) => event_c c V B cb (Kd.C_below hp hV) hcb (by have := hcu.l; omega) hcu.u)
  have HRE := Aside0.mk (fun V (hV : Below w.heap.size w V) => revent_c c V B cb (Kd.C_below hp hV) hcb (by have := hcu.l; omega) hcu.u)
  have HCK := Aside0.mk (fun V (hV : Below w.heap.size w V) => check_c c hcu l m hl (by omega) hu B cb hcb A c' V (Kd.C_below hr hV) (Kd.C_below hp hV))
  have HRC := Aside0.mk (fun V (hV : Below w.heap.size w V) => rcheck_c c hcu l m hl (by omega) hu B cb hcb A c' V (Kd.C_below hr hV) (Kd.C_below hp hV))
  unfold RetB at HFA HCK HRC
  unfold RetC at HMK HRM
  rw [fa] at HFA
  rw [hh] at HHU
  have hml := makeT_len l i (fun y hy => sa y hy)
  obtain ⟨⟨⟨mr, ms, ml, mp⟩, me⟩, hmk⟩ : ∃ v, makeT l i = v := ⟨_, rfl⟩
  rw [hmk] at HMK HRM hml
  obtain ⟨⟨ek, et, ea, eb⟩, hev⟩ : ∃ v, (evC c).getD zEv = v := ⟨_, rfl⟩
  obtain ⟨es, hes⟩ : ∃ v, (evC c).isSome = v := ⟨_, rfl⟩
  rw [hev, hes] at HEV HRE
  obtain ⟨ck, hck⟩ : ∃ v, checkT c l = v := ⟨_, rfl⟩
  rw [hck] at HCK HRC
  clear hmk hev hes hck
  obtain ⟨rc, sq, sl, py⟩ := c
  dsimp only at HHU HMK HRM HEV HRE HCK HRC hcb hp hml ⊢
  have HML := Aside0.mk hml
  obtain ⟨n, hn⟩ : ∃ t, py.length = t := ⟨_, rfl⟩
  rw [hn] at HHU HEV HRE HCK HRC
  rw [hn]
  have HB1 := Aside0.mk (below_alloc (Below.refl w.heap.size w) (.cells #[.string rc, .int .i64 sq, .int .u64 sl, .slice B n cb] 53))
  have HK1 := Aside0.mk (show Blk (w.alloc (.cells #[.string rc, .int .i64 sq, .int .u64 sl, .slice B n cb] 53)) w.heap.size 53 #[.string rc, .int .i64 sq, .int .u64 sl, .slice B n cb] from blk_new _ _)
  have hu53 := Try.underlying53
  have hu60 := Try.underlying60
  have q1 : (me == me) = true := by simp
  have q2 : (ck == ck) = true := by simp
  have q3 : (es == es) = true := by simp
  clear hr hl hm hcb hp hn hu sa fa hcu hh hml
  go_enter Try.func6, Try.ntmps6
  go_upto_region 1 with (fail)
  obtain ⟨W1, hW⟩ : ∃ V, w.alloc (.cells #[.string rc, .int .i64 sq, .int .u64 sl, .slice B n cb] 53) = V := ⟨_, rfl⟩
  rw [hW] at HB1 HK1
  rw [hW]
  clear hW
  go_wp2_with (fail)
  refine (HFA.out _ HB1.out).mono ?_
  rintro e w2 ⟨rfl, hb⟩
  have HB2 := Aside0.mk (below_step HB1.out hb)
  have HK2 := Aside0.mk (HK1.out.below hb)
  clear hb
  have z0 := HK2.out.cell 0
  have z1 := HK2.out.cell 1
  have z2 := HK2.out.cell 2
  have z3 := HK2.out.cell 3
  simp only [List.getElem?_toArray, List.getElem?_cons_zero, List.getElem?_cons_succ] at z0 z1 z2 z3
  go_wp2_with (fail)
  refine (HHU.out _ HB2.out).mono ?_
  rintro e w3 ⟨rfl, hb⟩
  have HB3 := Aside0.mk (below_step HB2.out hb)
  have HK3 := Aside0.mk (HK2.out.below hb)
  clear hb z0 z1 z2 z3
  go_wp2_with (fail)
  refine (HMK.out _ HB3.out).mono ?_
  rintro e w4 ⟨v, rfl, ho, hb⟩
  obtain ⟨A7, c7, rfl, hc7, hr7⟩ := Kd.R_reads ho
  have HB4 := Aside0.mk (below_step HB3.out hb)
  have HK4 := Aside0.mk (HK3.out.below hb)
  have HP7 := Aside0.mk (And.intro hc7 (show Rb w4 A7 mp from hr7))
  clear ho hb hc7 hr7
  go_upto_region 4 with (fail)
  have hb := below_alloc (Below.refl w4.heap.size w4) (.cells #[.string mr, .int .i64 ms, .int .u64 ml, .slice A7 mp.length c7] 53)
  have H75 := Aside0.mk (show Blk (w4.alloc (.cells #[.string mr, .int .i64 ms, .int .u64 ml, .slice A7 mp.length c7] 53)) w4.heap.size 53 #[.string mr, .int .i64 ms, .int .u64 ml, .slice A7 mp.length c7] from blk_new _ _)
  have HB5 := Aside0.mk (below_step HB4.out hb)
  have HK5 := Aside0.mk (HK4.out.below hb)
  have HP75 := Aside0.mk (show Rb (w4.alloc (.cells #[.string mr, .int .i64 ms, .int .u64 ml, .slice A7 mp.length c7] 53)) A7 mp from Kd.C_below HP7.out.2 hb)
  obtain ⟨w5, hw_⟩ : ∃ V, w4.alloc (.cells #[.string mr, .int .i64 ms, .int .u64 ml, .slice A7 mp.length c7] 53) = V := ⟨_, rfl⟩
  obtain ⟨g7, hg_⟩ : ∃ V, w4.heap.size = V := ⟨_, rfl⟩
  clear hb
  rw [hw_] at H75 HB5 HK5 HP75
  rw [hg_] at H75
  rw [hw_, hg_]
  clear hw_ hg_
  go_wp2_with (fail)
  refine (HRM.out _ HB5.out).mono ?_
  rintro e w6 ⟨v, rfl, ho, hb⟩
  obtain ⟨A9, c9, rfl, hc9, hr9⟩ := Kd.R_reads ho
  have HB6 := Aside0.mk (below_step HB5.out hb)
  have HK6 := Aside0.mk (HK5.out.below hb)
  have H76 := Aside0.mk (H75.out.below hb)
  have HP76 := Aside0.mk (Kd.C_below HP75.out hb)
  have HP9 := Aside0.mk (And.intro hc9 (show Rb w6 A9 mp from hr9))
  clear ho hb hc9 hr9
  go_upto_region 5 with (fail)
  have hb := below_alloc (Below.refl w6.heap.size w6) (.cells #[.string mr, .int .i64 ms, .int .u64 ml, .slice A9 mp.length c9] 53)
  have H97 := Aside0.mk (show Blk (w6.alloc (.cells #[.string mr, .int .i64 ms, .int .u64 ml, .slice A9 mp.length c9] 53)) w6.heap.size 53 #[.string mr, .int .i64 ms, .int .u64 ml, .slice A9 mp.length c9] from blk_new _ _)
  have HB7 := Aside0.mk (below_step HB6.out hb)
  have HK7 := Aside0.mk (HK6.out.below hb)
  have H77 := Aside0.mk (H76.out.below hb)
  have HP77 := Aside0.mk (show Rb (w6.alloc (.cells #[.string mr, .int .i64 ms, .int .u64 ml, .slice A9 mp.length c9] 53)) A7 mp from Kd.C_below HP76.out hb)
  have HP97 := Aside0.mk (show Rb (w6.alloc (.cells #[.string mr, .int .i64 ms, .int .u64 ml, .slice A9 mp.length c9] 53)) A9 mp from Kd.C_below HP9.out.2 hb)
  obtain ⟨w7, hw_⟩ : ∃ V, w6.alloc (.cells #[.string mr, .int .i64 ms, .int .u64 ml, .slice A9 mp.length c9] 53) = V := ⟨_, rfl⟩
  obtain ⟨g9, hg_⟩ : ∃ V, w6.heap.size = V := ⟨_, rfl⟩
  clear hb
  rw [hw_] at H97 HB7 HK7 H77 HP77 HP97
  rw [hg_] at H97
  rw [hw_, hg_]
  clear hw_ hg_
  have z0 := HK7.out.cell 0
  have z1 := HK7.out.cell 1
  have z2 := HK7.out.cell 2
  have z3 := HK7.out.cell 3
  simp only [List.getElem?_toArray, List.getElem?_cons_zero, List.getElem?_cons_succ] at z0 z1 z2 z3
  go_wp2_with (fail)
  refine (HEV.out _ HB7.out).mono ?_
  rintro e w8 ⟨rfl, hb⟩
  have HB8 := Aside0.mk (below_step HB7.out hb)
  have HK8 := Aside0.mk (HK7.out.below hb)
  have H78 := Aside0.mk (H77.out.below hb)
  have H98 := Aside0.mk (H97.out.below hb)
  have HP78 := Aside0.mk (Kd.C_below HP77.out hb)
  have HP98 := Aside0.mk (Kd.C_below HP97.out hb)
  clear hb z0 z1 z2 z3
  go_upto_region 6 with (fail)
  have hb := below_alloc (Below.refl w8.heap.size w8) (.cells #[.int .i64 ek, .int .i64 et, .string ea, .string eb] 60)
  have H119 := Aside0.mk (show Blk (w8.alloc (.cells #[.int .i64 ek, .int .i64 et, .string ea, .string eb] 60)) w8.heap.size 60 #[.int .i64 ek, .int .i64 et, .string ea, .string eb] from blk_new _ _)
  have HB9 := Aside0.mk (below_step HB8.out hb)
  have HK9 := Aside0.mk (HK8.out.below hb)
  have H79 := Aside0.mk (H78.out.below hb)
  have H99 := Aside0.mk (H98.out.below hb)
  have HP79 := Aside0.mk (show Rb (w8.alloc (.cells #[.int .i64 ek, .int .i64 et, .string ea, .string eb] 60)) A7 mp from Kd.C_below HP78.out hb)
  have HP99 := Aside0.mk (show Rb (w8.alloc (.cells #[.int .i64 ek, .int .i64 et, .string ea, .string eb] 60)) A9 mp from Kd.C_below HP98.out hb)
  obtain ⟨w9, hw_⟩ : ∃ V, w8.alloc (.cells #[.int .i64 ek, .int .i64 et, .string ea, .string eb] 60) = V := ⟨_, rfl⟩
  obtain ⟨g11, hg_⟩ : ∃ V, w8.heap.size = V := ⟨_, rfl⟩
  clear hb
  rw [hw_] at H119 HB9 HK9 H79 H99 HP79 HP99
  rw [hg_] at H119
  rw [hw_, hg_]
  clear hw_ hg_
  have z0 := HK9.out.cell 0
  have z1 := HK9.out.cell 1
  have z2 := HK9.out.cell 2
  have z3 := HK9.out.cell 3
  simp only [List.getElem?_toArray, List.getElem?_cons_zero, List.getElem?_cons_succ] at z0 z1 z2 z3
  go_wp2_with (fail)
  refine (HRE.out _ HB9.out).mono ?_
  rintro e wa ⟨rfl, hb⟩
  have HBa := Aside0.mk (below_step HB9.out hb)
  have HKa := Aside0.mk (HK9.out.below hb)
  have H7a := Aside0.mk (H79.out.below hb)
  have H9a := Aside0.mk (H99.out.below hb)
  have H11a := Aside0.mk (H119.out.below hb)
  have HP7a := Aside0.mk (Kd.C_below HP79.out hb)
  have HP9a := Aside0.mk (Kd.C_below HP99.out hb)
  clear hb z0 z1 z2 z3
  go_upto_region 7 with (fail)
  have hb := below_alloc (Below.refl wa.heap.size wa) (.cells #[.int .i64 ek, .int .i64 et, .string ea, .string eb] 60)
  have H13f := Aside0.mk (show Blk (wa.alloc (.cells #[.int .i64 ek, .int .i64 et, .string ea, .string eb] 60)) wa.heap.size 60 #[.int .i64 ek, .int .i64 et, .string ea, .string eb] from blk_new _ _)
  have HBf := Aside0.mk (below_step HBa.out hb)
  have HKf := Aside0.mk (HKa.out.below hb)
  have H7f := Aside0.mk (H7a.out.below hb)
  have H9f := Aside0.mk (H9a.out.below hb)
  have H11f := Aside0.mk (H11a.out.below hb)
  have HP7f := Aside0.mk (show Rb (wa.alloc (.cells #[.int .i64 ek, .int .i64 et, .string ea, .string eb] 60)) A7 mp from Kd.C_below HP7a.out hb)
  have HP9f := Aside0.mk (show Rb (wa.alloc (.cells #[.int .i64 ek, .int .i64 et, .string ea, .string eb] 60)) A9 mp from Kd.C_below HP9a.out hb)
  obtain ⟨wf, hw_⟩ : ∃ V, wa.alloc (.cells #[.int .i64 ek, .int .i64 et, .string ea, .string eb] 60) = V := ⟨_, rfl⟩
  obtain ⟨g13, hg_⟩ : ∃ V, wa.heap.size = V := ⟨_, rfl⟩
  clear hb
  rw [hw_] at H13f HBf HKf H7f H9f H11f HP7f HP9f
  rw [hg_] at H13f
  rw [hw_, hg_]
  clear hw_ hg_
  have HALL := Aside0.mk (fun V (hV : Below wf.heap.size wf V) => show V.cell? ⟨w.heap.size, 0, none⟩ = some (.string rc) ∧ V.cell? ⟨w.heap.size, 1, none⟩ = some (.int .i64 sq) ∧ V.cell? ⟨w.heap.size, 2, none⟩ = some (.int .u64 sl) ∧ V.cell? ⟨w.heap.size, 3, none⟩ = some (.slice B n cb) ∧ V.cell? ⟨g7, 0, none⟩ = some (.string mr) ∧ V.cell? ⟨g7, 1, none⟩ = some (.int .i64 ms) ∧ V.cell? ⟨g7, 2, none⟩ = some (.int .u64 ml) ∧ V.cell? ⟨g7, 3, none⟩ = some (.slice A7 mp.length c7) ∧ V.cell? ⟨g9, 0, none⟩ = some (.string mr) ∧ V.cell? ⟨g9, 1, none⟩ = some (.int .i64 ms) ∧ V.cell? ⟨g9, 2, none⟩ = some (.int .u64 ml) ∧ V.cell? ⟨g9, 3, none⟩ = some (.slice A9 mp.length c9) ∧ V.cell? ⟨g11, 0, none⟩ = some (.int .i64 ek) ∧ V.cell? ⟨g11, 1, none⟩ = some (.int .i64 et) ∧ V.cell? ⟨g11, 2, none⟩ = some (.string ea) ∧ V.cell? ⟨g11, 3, none⟩ = some (.string eb) ∧ V.cell? ⟨g13, 0, none⟩ = some (.int .i64 ek) ∧ V.cell? ⟨g13, 1, none⟩ = some (.int .i64 et) ∧ V.cell? ⟨g13, 2, none⟩ = some (.string ea) ∧ V.cell? ⟨g13, 3, none⟩ = some (.string eb) from ⟨((HKf.out.below hV).cell 0).trans rfl, ((HKf.out.below hV).cell 1).trans rfl, ((HKf.out.below hV).cell 2).trans rfl, ((HKf.out.below hV).cell 3).trans rfl, ((H7f.out.below hV).cell 0).trans rfl, ((H7f.out.below hV).cell 1).trans rfl, ((H7f.out.below hV).cell 2).trans rfl, ((H7f.out.below hV).cell 3).trans rfl, ((H9f.out.below hV).cell 0).trans rfl, ((H9f.out.below hV).cell 1).trans rfl, ((H9f.out.below hV).cell 2).trans rfl, ((H9f.out.below hV).cell 3).trans rfl, ((H11f.out.below hV).cell 0).trans rfl, ((H11f.out.below hV).cell 1).trans rfl, ((H11f.out.below hV).cell 2).trans rfl, ((H11f.out.below hV).cell 3).trans rfl, ((H13f.out.below hV).cell 0).trans rfl, ((H13f.out.below hV).cell 1).trans rfl, ((H13f.out.below hV).cell 2).trans rfl, ((H13f.out.below hV).cell 3).trans rfl⟩)
  have HSA := Aside0.mk (fun V (hV : Below wf.heap.size wf V) => rsame_c mr ms ml mp (by have := HML.out; omega) A7 A9 c7 c9 V (Kd.C_below HP7f.out hV) HP7.out.1 (Kd.C_below HP9f.out hV) HP9.out.1)
  have heq := run_eq_ev ek et ea eb
  refine wp_region_held_drew (S := fun V => V.cell? ⟨w.heap.size, 0, none⟩ = some (.string rc) ∧ V.cell? ⟨w.heap.size, 1, none⟩ = some (.int .i64 sq) ∧ V.cell? ⟨w.heap.size, 2, none⟩ = some (.int .u64 sl) ∧ V.cell? ⟨w.heap.size, 3, none⟩ = some (.slice B n cb) ∧ V.cell? ⟨g7, 0, none⟩ = some (.string mr) ∧ V.cell? ⟨g7, 1, none⟩ = some (.int .i64 ms) ∧ V.cell? ⟨g7, 2, none⟩ = some (.int .u64 ml) ∧ V.cell? ⟨g7, 3, none⟩ = some (.slice A7 mp.length c7) ∧ V.cell? ⟨g9, 0, none⟩ = some (.string mr) ∧ V.cell? ⟨g9, 1, none⟩ = some (.int .i64 ms) ∧ V.cell? ⟨g9, 2, none⟩ = some (.int .u64 ml) ∧ V.cell? ⟨g9, 3, none⟩ = some (.slice A9 mp.length c9) ∧ V.cell? ⟨g11, 0, none⟩ = some (.int .i64 ek) ∧ V.cell? ⟨g11, 1, none⟩ = some (.int .i64 et) ∧ V.cell? ⟨g11, 2, none⟩ = some (.string ea) ∧ V.cell? ⟨g11, 3, none⟩ = some (.string eb) ∧ V.cell? ⟨g13, 0, none⟩ = some (.int .i64 ek) ∧ V.cell? ⟨g13, 1, none⟩ = some (.int .i64 et) ∧ V.cell? ⟨g13, 2, none⟩ = some (.string ea) ∧ V.cell? ⟨g13, 3, none⟩ = some (.string eb)) (by kernel_rfl) (HALL.out _ (below_drew1 (Below.refl _ _))) (fun hHeld => ?_)
  (refine wpAnyH_take (i := 0) (v := ?_) rfl (by kernel_rfl) (by kernel_rfl) (by kernel_rfl) (fun _ _ _ h => h) (Or.inl ⟨by rfl, ?_⟩) (by assumption) ?_; (case' refine_2 => (intro w hSw; go_simp; try with_reducible rfl)); (try simp only [Act.put, List.getElem_toArray, List.getElem_cons_zero, List.getElem_cons_succ, List.setIfInBounds_toArray, List.set_cons_zero, List.set_cons_succ]))
  (refine wpAnyH_take (i := 1) (v := ?_) rfl (by kernel_rfl) (by kernel_rfl) (by kernel_rfl) (fun _ _ _ h => h) (Or.inl ⟨by rfl, ?_⟩) (by assumption) ?_; (case' refine_2 => (intro w hSw; go_simp; try with_reducible rfl)); (try simp only [Act.put, List.getElem_toArray, List.getElem_cons_zero, List.getElem_cons_succ, List.setIfInBounds_toArray, List.set_cons_zero, List.set_cons_succ]))
  (refine wpAnyH_ready (rs := [2]) (by kernel_rfl) (by simp) (AllReadyH.cons rfl (fun K hK => ?_) AllReadyH.nil); go_simp)
  refine (HSA.out _ (below_drew1 (Below.refl _ _))).mono ?_
  rintro e wg ⟨rfl, hb⟩
  have HBg := Aside0.mk (below_drew_of hb)
  clear hb
  (refine Shut.out hK _ _ (HALL.out _ HBg.out) (fun hHeld => ?_); clear hK K; (try simp only [Act.put, List.getElem_toArray, List.getElem_cons_zero, List.getElem_cons_succ, List.setIfInBounds_toArray, List.set_cons_zero, List.set_cons_succ]))
  (refine wpAnyH_take (i := 3) (v := ?_) rfl (by kernel_rfl) (by kernel_rfl) (by kernel_rfl) (fun _ _ _ h => h) (Or.inl ⟨by rfl, ?_⟩) (by assumption) ?_; (case' refine_2 => (intro w hSw; go_simp; try with_reducible rfl)); (try simp only [Act.put, List.getElem_toArray, List.getElem_cons_zero, List.getElem_cons_succ, List.setIfInBounds_toArray, List.set_cons_zero, List.set_cons_succ]))
  (refine wpAnyH_take (i := 4) (v := ?_) rfl (by kernel_rfl) (by kernel_rfl) (by kernel_rfl) (fun _ _ _ h => h) (Or.inl ⟨by rfl, ?_⟩) (by assumption) ?_; (case' refine_2 => (intro w hSw; go_simp; try with_reducible rfl)); (try simp only [Act.put, List.getElem_toArray, List.getElem_cons_zero, List.getElem_cons_succ, List.setIfInBounds_toArray, List.set_cons_zero, List.set_cons_succ]))
  (refine wpAnyH_take (i := 6) (v := ?_) rfl (by kernel_rfl) (by kernel_rfl) (by kernel_rfl) (fun _ _ _ h => h) (Or.inl ⟨by rfl, ?_⟩) (by assumption) ?_; (case' refine_2 => (intro w hSw; go_simp; try with_reducible rfl)); (try simp only [Act.put, List.getElem_toArray, List.getElem_cons_zero, List.getElem_cons_succ, List.setIfInBounds_toArray, List.set_cons_zero, List.set_cons_succ]))
  (refine wpAnyH_ready (rs := [5]) (by kernel_rfl) (by simp) (AllReadyH.cons rfl (fun K hK => ?_) AllReadyH.nil); go_simp)
  refine (num25_c me _).mono ?_
  rintro e wh ⟨rfl, rfl⟩
  (refine Shut.out hK _ _ (HALL.out _ HBg.out) (fun hHeld => ?_); clear hK K; (try simp only [Act.put, List.getElem_toArray, List.getElem_cons_zero, List.getElem_cons_succ, List.setIfInBounds_toArray, List.set_cons_zero, List.set_cons_succ]))
  (refine wpAnyH_take (i := 7) (v := ?_) rfl (by kernel_rfl) (by kernel_rfl) (by kernel_rfl) (fun _ _ _ h => h) (Or.inl ⟨by rfl, ?_⟩) (by assumption) ?_; (case' refine_2 => (intro w hSw; go_simp; try with_reducible rfl)); (try simp only [Act.put, List.getElem_toArray, List.getElem_cons_zero, List.getElem_cons_succ, List.setIfInBounds_toArray, List.set_cons_zero, List.set_cons_succ]))
  (refine wpAnyH_take (i := 8) (v := ?_) rfl (by kernel_rfl) (by kernel_rfl) (by kernel_rfl) (fun _ _ _ h => h) (Or.inl ⟨by rfl, ?_⟩) (by assumption) ?_; (case' refine_2 => (intro w hSw; go_simp; try with_reducible rfl)); (try simp only [Act.put, List.getElem_toArray, List.getElem_cons_zero, List.getElem_cons_succ, List.setIfInBounds_toArray, List.set_cons_zero, List.set_cons_succ]))
  (refine wpAnyH_take (i := 9) (v := ?_) rfl (by kernel_rfl) (by kernel_rfl) (by kernel_rfl) (fun _ _ _ h => h) (Or.inl ⟨by rfl, ?_⟩) (by assumption) ?_; (case' refine_2 => (intro w hSw; go_simp; try with_reducible rfl)); (try simp only [Act.put, List.getElem_toArray, List.getElem_cons_zero, List.getElem_cons_succ, List.setIfInBounds_toArray, List.set_cons_zero, List.set_cons_succ]))
  (refine wpAnyH_take (i := 10) (v := ?_) rfl (by kernel_rfl) (by kernel_rfl) (by kernel_rfl) (fun _ _ _ h => h) (Or.inl ⟨by rfl, ?_⟩) (by assumption) ?_; (case' refine_2 => (intro w hSw; go_simp; try with_reducible rfl)); (try simp only [Act.put, List.getElem_toArray, List.getElem_cons_zero, List.getElem_cons_succ, List.setIfInBounds_toArray, List.set_cons_zero, List.set_cons_succ]))
  (refine wpAnyH_take (i := 11) (v := ?_) rfl (by kernel_rfl) (by kernel_rfl) (by kernel_rfl) (fun _ _ _ h => h) (Or.inl ⟨by rfl, ?_⟩) (by assumption) ?_; (case' refine_2 => (intro w hSw; go_simp; try with_reducible rfl)); (try simp only [Act.put, List.getElem_toArray, List.getElem_cons_zero, List.getElem_cons_succ, List.setIfInBounds_toArray, List.set_cons_zero, List.set_cons_succ]))
  (refine wpAnyH_take (i := 13) (v := ?_) rfl (by kernel_rfl) (by kernel_rfl) (by kernel_rfl) (fun _ _ _ h => h) (Or.inl ⟨by rfl, ?_⟩) (by assumption) ?_; (case' refine_2 => (intro w hSw; go_simp; try with_reducible rfl)); (try simp only [Act.put, List.getElem_toArray, List.getElem_cons_zero, List.getElem_cons_succ, List.setIfInBounds_toArray, List.set_cons_zero, List.set_cons_succ]))
  (refine wpAnyH_take (i := 14) (v := ?_) rfl (by kernel_rfl) (by kernel_rfl) (by kernel_rfl) (fun _ _ _ h => h) (Or.inl ⟨by rfl, ?_⟩) (by assumption) ?_; (case' refine_2 => (intro w hSw; go_simp; try with_reducible rfl)); (try simp only [Act.put, List.getElem_toArray, List.getElem_cons_zero, List.getElem_cons_succ, List.setIfInBounds_toArray, List.set_cons_zero, List.set_cons_succ]))
  (refine wpAnyH_ready (rs := [12]) (by kernel_rfl) (by simp) (AllReadyH.cons rfl (fun K hK => ?_) AllReadyH.nil); go_simp)
  refine (HCK.out _ (below_step HBf.out HBg.out)).mono ?_
  rintro e wh ⟨rfl, hb⟩
  have HBh := Aside0.mk (below_step HBg.out hb)
  clear hb
  (refine Shut.out hK _ _ (HALL.out _ HBh.out) (fun hHeld => ?_); clear hK K; (try simp only [Act.put, List.getElem_toArray, List.getElem_cons_zero, List.getElem_cons_succ, List.setIfInBounds_toArray, List.set_cons_zero, List.set_cons_succ]))
  (refine wpAnyH_ready (rs := [15]) (by kernel_rfl) (by simp) (AllReadyH.cons rfl (fun K hK => ?_) AllReadyH.nil); go_simp)
  refine (HRC.out _ (below_step HBf.out HBh.out)).mono ?_
  rintro e wi ⟨rfl, hb⟩
  have HBi := Aside0.mk (below_step HBh.out hb)
  clear hb
  (refine Shut.out hK _ _ (HALL.out _ HBi.out) (fun hHeld => ?_); clear hK K; (try simp only [Act.put, List.getElem_toArray, List.getElem_cons_zero, List.getElem_cons_succ, List.setIfInBounds_toArray, List.set_cons_zero, List.set_cons_succ]))
  (refine wpAnyH_take (i := 16) (v := ?_) rfl (by kernel_rfl) (by kernel_rfl) (by kernel_rfl) (fun _ _ _ h => h) (Or.inl ⟨by rfl, ?_⟩) (by assumption) ?_; (case' refine_2 => (intro w hSw; go_simp; try with_reducible rfl)); (try simp only [Act.put, List.getElem_toArray, List.getElem_cons_zero, List.getElem_cons_succ, List.setIfInBounds_toArray, List.set_cons_zero, List.set_cons_succ]))
  (refine wpAnyH_take (i := 17) (v := ?_) rfl (by kernel_rfl) (by kernel_rfl) (by kernel_rfl) (fun _ _ _ h => h) (Or.inl ⟨by rfl, ?_⟩) (by assumption) ?_; (case' refine_2 => (intro w hSw; go_simp; try with_reducible rfl)); (try simp only [Act.put, List.getElem_toArray, List.getElem_cons_zero, List.getElem_cons_succ, List.setIfInBounds_toArray, List.set_cons_zero, List.set_cons_succ]))
  (refine wpAnyH_take (i := 18) (v := ?_) rfl (by kernel_rfl) (by kernel_rfl) (by kernel_rfl) (fun _ _ _ h => h) (Or.inl ⟨by rfl, ?_⟩) (by assumption) ?_; (case' refine_2 => (intro w hSw; go_simp; try with_reducible rfl)); (try simp only [Act.put, List.getElem_toArray, List.getElem_cons_zero, List.getElem_cons_succ, List.setIfInBounds_toArray, List.set_cons_zero, List.set_cons_succ]))
  (refine wpAnyH_take (i := 19) (v := ?_) rfl (by kernel_rfl) (by kernel_rfl) (by kernel_rfl) (fun _ _ _ h => h) (Or.inl ⟨by rfl, ?_⟩) (by assumption) ?_; (case' refine_2 => (intro w hSw; go_simp; try with_reducible rfl)); (try simp only [Act.put, List.getElem_toArray, List.getElem_cons_zero, List.getElem_cons_succ, List.setIfInBounds_toArray, List.set_cons_zero, List.set_cons_succ]))
  (refine wpAnyH_take (i := 20) (v := ?_) rfl (by kernel_rfl) (by kernel_rfl) (by kernel_rfl) (fun _ _ _ h => h) (Or.inl ⟨by rfl, ?_⟩) (by assumption) ?_; (case' refine_2 => (intro w hSw; go_simp; try with_reducible rfl)); (try simp only [Act.put, List.getElem_toArray, List.getElem_cons_zero, List.getElem_cons_succ, List.setIfInBounds_toArray, List.set_cons_zero, List.set_cons_succ]))
  (refine wpAnyH_take (i := 21) (v := ?_) rfl (by kernel_rfl) (by kernel_rfl) (by kernel_rfl) (fun _ _ _ h => h) (Or.inl ⟨by rfl, ?_⟩) (by assumption) ?_; (case' refine_2 => (intro w hSw; go_simp; try with_reducible rfl)); (try simp only [Act.put, List.getElem_toArray, List.getElem_cons_zero, List.getElem_cons_succ, List.setIfInBounds_toArray, List.set_cons_zero, List.set_cons_succ]))
  clear heq
  (refine wpAnyH_take (i := 22) (v := ?_) rfl (by kernel_rfl) (by kernel_rfl) (by kernel_rfl) (fun _ _ _ h => h) (Or.inl ⟨by rfl, ?_⟩) (by assumption) ?_; (case' refine_2 => (intro w hSw; go_simp; try with_reducible rfl)); (try simp only [Act.put, List.getElem_toArray, List.getElem_cons_zero, List.getElem_cons_succ, List.setIfInBounds_toArray, List.set_cons_zero, List.set_cons_succ]))
  (refine wpAnyH_take (i := 23) (v := ?_) rfl (by kernel_rfl) (by kernel_rfl) (by kernel_rfl) (fun _ _ _ h => h) (Or.inl ⟨by rfl, ?_⟩) (by assumption) ?_; (case' refine_2 => (intro w hSw; go_simp; try with_reducible rfl)); (try simp only [Act.put, List.getElem_toArray, List.getElem_cons_zero, List.getElem_cons_succ, List.setIfInBounds_toArray, List.set_cons_zero, List.set_cons_succ]))
  (refine wpAnyH_take (i := 24) (v := ?_) rfl (by kernel_rfl) (by kernel_rfl) (by kernel_rfl) (fun _ _ _ h => h) (Or.inl ⟨by rfl, ?_⟩) (by assumption) ?_; (case' refine_2 => (intro w hSw; go_simp; try with_reducible rfl)); (try simp only [Act.put, List.getElem_toArray, List.getElem_cons_zero, List.getElem_cons_succ, List.setIfInBounds_toArray, List.set_cons_zero, List.set_cons_succ]))
  (refine wpAnyH_take (i := 25) (v := ?_) rfl (by kernel_rfl) (by kernel_rfl) (by kernel_rfl) (fun _ _ _ h => h) (Or.inl ⟨by rfl, ?_⟩) (by assumption) ?_; (case' refine_2 => (intro w hSw; go_simp; try with_reducible rfl)); (try simp only [Act.put, List.getElem_toArray, List.getElem_cons_zero, List.getElem_cons_succ, List.setIfInBounds_toArray, List.set_cons_zero, List.set_cons_succ]))
  (refine wpAnyH_take (i := 26) (v := ?_) rfl (by kernel_rfl) (by kernel_rfl) (by kernel_rfl) (fun _ _ _ h => h) (Or.inl ⟨by rfl, ?_⟩) (by assumption) ?_; (case' refine_2 => (intro w hSw; go_simp; try with_reducible rfl)); (try simp only [Act.put, List.getElem_toArray, List.getElem_cons_zero, List.getElem_cons_succ, List.setIfInBounds_toArray, List.set_cons_zero, List.set_cons_succ]))
  (refine wpAnyH_take (i := 27) (v := ?_) rfl (by kernel_rfl) (by kernel_rfl) (by kernel_rfl) (fun _ _ _ h => h) (Or.inl ⟨by rfl, ?_⟩) (by assumption) ?_; (case' refine_2 => (intro w hSw; go_simp; try with_reducible rfl)); (try simp only [Act.put, List.getElem_toArray, List.getElem_cons_zero, List.getElem_cons_succ, List.setIfInBounds_toArray, List.set_cons_zero, List.set_cons_succ]))
  (refine wpAnyH_take (i := 28) (v := ?_) rfl (by kernel_rfl) (by kernel_rfl) (by kernel_rfl) (fun _ _ _ h => h) (Or.inl ⟨by rfl, ?_⟩) (by assumption) ?_; (case' refine_2 => (intro w hSw; go_simp; try with_reducible rfl)); (try simp only [Act.put, List.getElem_toArray, List.getElem_cons_zero, List.getElem_cons_succ, List.setIfInBounds_toArray, List.set_cons_zero, List.set_cons_succ]))
  (refine wpAnyH_ready (rs := [29]) (by kernel_rfl) (by simp) (AllReadyH.cons rfl (fun K hK => ?_) AllReadyH.nil); go_simp)
  refine (live25_c _).mono ?_
  rintro e wj ⟨rfl, hb⟩
  have HBj := Aside0.mk (below_step HBi.out hb)
  clear hb
  (refine Shut.out hK _ _ (HALL.out _ HBj.out) (fun hHeld => ?_); clear hK K; (try simp only [Act.put, List.getElem_toArray, List.getElem_cons_zero, List.getElem_cons_succ, List.setIfInBounds_toArray, List.set_cons_zero, List.set_cons_succ]))
  (refine wpAnyH_take (i := 30) (v := ?_) rfl (by kernel_rfl) (by kernel_rfl) (by kernel_rfl) (fun _ _ _ h => h) (Or.inl ⟨by rfl, ?_⟩) (by assumption) ?_; (case' refine_2 => (intro w hSw; go_simp; try with_reducible rfl)); (try simp only [Act.put, List.getElem_toArray, List.getElem_cons_zero, List.getElem_cons_succ, List.setIfInBounds_toArray, List.set_cons_zero, List.set_cons_succ]))
  (refine wpAnyH_take (i := 31) (v := ?_) rfl (by kernel_rfl) (by kernel_rfl) (by kernel_rfl) (fun _ _ _ h => h) (Or.inl ⟨by rfl, ?_⟩) (by assumption) ?_; (case' refine_2 => (intro w hSw; go_simp; try with_reducible rfl)); (try simp only [Act.put, List.getElem_toArray, List.getElem_cons_zero, List.getElem_cons_succ, List.setIfInBounds_toArray, List.set_cons_zero, List.set_cons_succ]))
  refine wpAnyH_done (by kernel_rfl) ?_ _
  go_wp2_with (fail)
  go_ret
  exact ⟨rfl, below_step HBf.out HBj.out⟩
end Go.Proofs.Ytfpkgdenohcglaa.Crt
