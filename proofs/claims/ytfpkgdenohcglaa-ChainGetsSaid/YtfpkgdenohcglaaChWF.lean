/- Own and printed texts, laid together. -/
import Derived.Test.YtfpkgdenohcglaaChWD
import Derived.Test.YtfpkgdenohcglaaChWC
import Derived.Test.YtfpkgdenohcglaaChWE
import Derived.Test.YtfpkgdenohcglaaChWB
/- chain.same, slices.EqualFunc, chain.Same walked (printed by gen_chnsamec.py). -/
namespace Go.Proofs.Ytfpkgdenohcglaa.Chn
set_option linter.unusedVariables false
set_option linter.unusedSimpArgs false
open Go.RowKit Go.Proofs.Ytfpkgdenohcglaa.Lo Go.Proofs.Ytfpkgdenohcglaa.RdPlain Go.Proofs.Ytfpkgdenohcglaa.Base Go.Proofs.Ytfpkgdenohcglaa.TlvPlain Go.Proofs.Ytfpkgdenohcglaa.ShaPlain Go.Proofs.Ytfpkgdenohcglaa.Sha Go.Proofs.Ytfpkgdenohcglaa.Com Go.Proofs.Ytfpkgdenohcglaa.Aid Go.Proofs.Ytfpkgdenohcglaa.PZ Go.Proofs.YtfpkgdenohcglaaW.PrintWords Go.Proofs.YtfpkgdenohcglaaW.PrintLast Go.Proofs.YtfpkgdenohcglaaW.PrintMore
open Tlv (RdO takeO_ okO numO_ textO_ leftO_ newO)
attribute [local irreducible] shaB
theorem bytes_dec {a b : List Int} (ha : U8 a) (hb : U8 b) : bytes_Equal.f a b = some (decide (a = b)) := by
  unfold bytes_Equal.f
  congr 1
  by_cases h : a = b
  · rw [decide_eq_true h, h]; simp
  · rw [decide_eq_false h]
    rw [beq_eq_false_iff_ne]
    intro e
    apply h
    rw [ByteArray.toList_eq, ByteArray.toList_eq, strOfNums_data, strOfNums_data] at e
    have e2 : strOfNums a = strOfNums b := by
      apply ByteArray.ext
      apply Array.toList_inj.1
      rw [strOfNums_data, strOfNums_data]; exact e
    rw [← bytes_str ha, ← bytes_str hb, e2]
theorem ent_dec (x y : Ent) : decide (x = y) = (decide (seqE x = seqE y) && (decide (prevE x = prevE y) && (decide (comE x = comE y) && (decide (saltE x = saltE y) && (decide (redE x = redE y) && decide (payE x = payE y)))))) := by
  rw [Bool.eq_iff_iff]
  simp only [Bool.and_eq_true, decide_eq_true_eq]
  constructor
  · rintro rfl; exact ⟨rfl, rfl, rfl, rfl, rfl, rfl⟩
  · rintro ⟨h0, h1, h2, h3, h4, h5⟩; exact ent_ext h0 h1 h2 h3 h4 h5
set_option maxHeartbeats 8000000 in
set_option maxRecDepth 100000 in
theorem same1_c (x y : Ent) (hx : Eu x) (hy : Eu y) (P C P' C' : List Value) (A A' : Option Addr) (c c' : Nat) (w : World) (hC : EntC w x P C A c) (hC' : EntC w y P' C' A' c') :
    Calls Try.prog 83 #[.agg (cE x P C A c).toArray, .agg (cE y P' C' A' c').toArray] w (RetB w (decide (x = y))) := by
  unfold RetB
  have HD := Aside0.mk (ent_dec x y)
  have HSM := Aside0.mk (fun V (hV : Below w.heap.size w V) => bytes_Equal.calls A c (payE x) A' c' (payE y) (decide (payE x = payE y)) V (Kd.C_below hC.r hV) hC.hc (Kd.C_below hC'.r hV) hC'.hc (bytes_dec hx.u hy.u))
  have HP := Aside0.mk (run_eq_sum (prevE x) (prevE y) hx.pl hy.pl)
  have HC := Aside0.mk (run_eq_sum (comE x) (comE y) hx.cl hy.cl)
  rw [hC.fp.v, hC'.fp.v] at HP
  rw [hC.fc.v, hC'.fc.v] at HC
  have HI := Aside0.mk (And.intro hC.fp.blk (And.intro hC.fc.blk (And.intro hC'.fp.blk hC'.fc.blk)))
  obtain ⟨X, hX⟩ : ∃ X, (cE x P C A c).toArray = X := ⟨_, rfl⟩
  obtain ⟨Y, hY⟩ : ∃ Y, (cE y P' C' A' c').toArray = Y := ⟨_, rfl⟩
  have HE := Aside0.mk (And.intro (entAt_blk (W := (w.alloc (.cells (cE x P C A c).toArray 27)).alloc (.cells (cE y P' C' A' c').toArray 27)) (g := w.heap.size) (fr := (0, 0)) (T := 27) hC.fp.lenC hC.fc.lenC (blk_alloc (blk_new _ _) _))
    (entAt_blk (W := (w.alloc (.cells (cE x P C A c).toArray 27)).alloc (.cells (cE y P' C' A' c').toArray 27)) (g := w.heap.size + 1) (fr := (0, 0)) (T := 27) hC'.fp.lenC hC'.fc.lenC (second_new' _ _ _)))
  have HB4 := Aside0.mk (show Below w.heap.size w ((w.alloc (.cells (cE x P C A c).toArray 27)).alloc (.cells (cE y P' C' A' c').toArray 27)) from below_alloc (below_alloc (Below.refl _ _) _) _)
  rw [hX, hY] at HE HB4
  rw [hX, hY]
  obtain ⟨bp, hbp⟩ : ∃ v, decide (prevE x = prevE y) = v := ⟨_, rfl⟩
  obtain ⟨bc, hbc⟩ : ∃ v, decide (comE x = comE y) = v := ⟨_, rfl⟩
  obtain ⟨by_, hby⟩ : ∃ v, decide (payE x = payE y) = v := ⟨_, rfl⟩
  rw [hbp] at HP HD
  rw [hbc] at HC HD
  rw [hby] at HSM HD
  have hguard := guard_32
  have hu24 := Try.underlying23
  have hu27 := Try.underlying27
  clear hx hy hC hC' hX hY hbp hbc hby
  go_enter Try.func83, Try.ntmps83
  go_upto_region 1 with (fail)
  obtain ⟨W, hW⟩ : ∃ V, (w.alloc (.cells X 27)).alloc (.cells Y 27) = V := ⟨_, rfl⟩
  rw [hW] at HE HB4
  rw [hW]
  clear hW
  have hs1 := HE.out.1.s
  have hs2 := HE.out.1.sl
  have hs3 := HE.out.1.py
  have hs4 := HE.out.1.r
  have ht1 := HE.out.2.s
  have ht2 := HE.out.2.sl
  have ht3 := HE.out.2.py
  have ht4 := HE.out.2.r
  obtain ⟨s1, es1⟩ : ∃ v, seqE x = v := ⟨_, rfl⟩
  rw [es1] at hs1 HD
  clear es1
  obtain ⟨t1, et1⟩ : ∃ v, seqE y = v := ⟨_, rfl⟩
  rw [et1] at ht1 HD
  clear et1
  obtain ⟨s2, es2⟩ : ∃ v, saltE x = v := ⟨_, rfl⟩
  rw [es2] at hs2 HD
  clear es2
  obtain ⟨t2, et2⟩ : ∃ v, saltE y = v := ⟨_, rfl⟩
  rw [et2] at ht2 HD
  clear et2
  obtain ⟨s4, es4⟩ : ∃ v, redE x = v := ⟨_, rfl⟩
  rw [es4] at hs4 HD
  clear es4
  obtain ⟨t4, et4⟩ : ∃ v, redE y = v := ⟨_, rfl⟩
  rw [et4] at ht4 HD
  clear et4
  by_cases c0 : s1 = t1
  · have r1 : (s1 == t1) = true := by simp [c0]
    rw [decide_eq_true c0, Bool.true_and] at HD
    clear c0
    have hbp := HP.out
    cases bp with
    | true =>
      rw [Bool.true_and] at HD
      have hbc := HC.out
      cases bc with
      | true =>
        rw [Bool.true_and] at HD
        by_cases c3 : s2 = t2
        · have r2 : (s2 == t2) = true := by simp [c3]
          rw [decide_eq_true c3, Bool.true_and] at HD
          clear c3
          by_cases c4 : s4 = t4
          · have r4 : (s4 == t4) = true := by simp [c4]
            rw [decide_eq_true c4, Bool.true_and] at HD
            clear c4
            cases by_ with
            | true =>
              go_wp2_with (first
                | ((with_reducible refine gate_dst (N := 12) rfl ?_); (try (refine gate_guard (by rfl) ?_; dsimp only)); refine wpList_load_at rfl 23 (.tmp 11) rfl _ rfl P _ HE.out.1.fp Try.underlying23 rfl HI.out.1 ?_)
                | ((with_reducible refine gate_dst (N := 14) rfl ?_); (try (refine gate_guard (by rfl) ?_; dsimp only)); refine wpList_load_at rfl 23 (.tmp 13) rfl _ rfl P' _ HE.out.2.fp Try.underlying23 rfl HI.out.2.2.1 ?_)
                | ((with_reducible refine gate_dst (N := 19) rfl ?_); (try (refine gate_guard (by rfl) ?_; dsimp only)); refine wpList_load_at rfl 23 (.tmp 18) rfl _ rfl C _ HE.out.1.fc Try.underlying23 rfl HI.out.2.1 ?_)
                | ((with_reducible refine gate_dst (N := 21) rfl ?_); (try (refine gate_guard (by rfl) ?_; dsimp only)); refine wpList_load_at rfl 23 (.tmp 20) rfl _ rfl C' _ HE.out.2.fc Try.underlying23 rfl HI.out.2.2.2 ?_)
                | (go_at_call 89; refine (HSM.out _ HB4.out).mono ?_; rintro e w9 ⟨rfl, hd⟩; have HB9 := Aside0.mk (below_step HB4.out (Drawn0.below hd)); clear hd))
              go_ret
              exact ⟨by rw [HD.out]; first | done | rfl, HB9.out⟩
            | false =>
              go_wp2_with (first
                | ((with_reducible refine gate_dst (N := 12) rfl ?_); (try (refine gate_guard (by rfl) ?_; dsimp only)); refine wpList_load_at rfl 23 (.tmp 11) rfl _ rfl P _ HE.out.1.fp Try.underlying23 rfl HI.out.1 ?_)
                | ((with_reducible refine gate_dst (N := 14) rfl ?_); (try (refine gate_guard (by rfl) ?_; dsimp only)); refine wpList_load_at rfl 23 (.tmp 13) rfl _ rfl P' _ HE.out.2.fp Try.underlying23 rfl HI.out.2.2.1 ?_)
                | ((with_reducible refine gate_dst (N := 19) rfl ?_); (try (refine gate_guard (by rfl) ?_; dsimp only)); refine wpList_load_at rfl 23 (.tmp 18) rfl _ rfl C _ HE.out.1.fc Try.underlying23 rfl HI.out.2.1 ?_)
                | ((with_reducible refine gate_dst (N := 21) rfl ?_); (try (refine gate_guard (by rfl) ?_; dsimp only)); refine wpList_load_at rfl 23 (.tmp 20) rfl _ rfl C' _ HE.out.2.fc Try.underlying23 rfl HI.out.2.2.2 ?_)
                | (go_at_call 89; refine (HSM.out _ HB4.out).mono ?_; rintro e w9 ⟨rfl, hd⟩; have HB9 := Aside0.mk (below_step HB4.out (Drawn0.below hd)); clear hd))
              go_ret
              exact ⟨by rw [HD.out]; first | done | rfl, HB9.out⟩
          · have r4 : (s4 == t4) = false := by simp [c4]
            rw [decide_eq_false c4, Bool.false_and] at HD
            clear c4
            go_wp2_with (first
              | ((with_reducible refine gate_dst (N := 12) rfl ?_); (try (refine gate_guard (by rfl) ?_; dsimp only)); refine wpList_load_at rfl 23 (.tmp 11) rfl _ rfl P _ HE.out.1.fp Try.underlying23 rfl HI.out.1 ?_)
              | ((with_reducible refine gate_dst (N := 14) rfl ?_); (try (refine gate_guard (by rfl) ?_; dsimp only)); refine wpList_load_at rfl 23 (.tmp 13) rfl _ rfl P' _ HE.out.2.fp Try.underlying23 rfl HI.out.2.2.1 ?_)
              | ((with_reducible refine gate_dst (N := 19) rfl ?_); (try (refine gate_guard (by rfl) ?_; dsimp only)); refine wpList_load_at rfl 23 (.tmp 18) rfl _ rfl C _ HE.out.1.fc Try.underlying23 rfl HI.out.2.1 ?_)
              | ((with_reducible refine gate_dst (N := 21) rfl ?_); (try (refine gate_guard (by rfl) ?_; dsimp only)); refine wpList_load_at rfl 23 (.tmp 20) rfl _ rfl C' _ HE.out.2.fc Try.underlying23 rfl HI.out.2.2.2 ?_)
              | (go_at_call 89; refine (HSM.out _ HB4.out).mono ?_; rintro e w9 ⟨rfl, hd⟩; have HB9 := Aside0.mk (below_step HB4.out (Drawn0.below hd)); clear hd))
            go_ret
            exact ⟨by rw [HD.out]; first | done | rfl, HB4.out⟩
        · have r2 : (s2 == t2) = false := by simp [c3]
          rw [decide_eq_false c3, Bool.false_and] at HD
          clear c3
          go_wp2_with (first
            | ((with_reducible refine gate_dst (N := 12) rfl ?_); (try (refine gate_guard (by rfl) ?_; dsimp only)); refine wpList_load_at rfl 23 (.tmp 11) rfl _ rfl P _ HE.out.1.fp Try.underlying23 rfl HI.out.1 ?_)
            | ((with_reducible refine gate_dst (N := 14) rfl ?_); (try (refine gate_guard (by rfl) ?_; dsimp only)); refine wpList_load_at rfl 23 (.tmp 13) rfl _ rfl P' _ HE.out.2.fp Try.underlying23 rfl HI.out.2.2.1 ?_)
            | ((with_reducible refine gate_dst (N := 19) rfl ?_); (try (refine gate_guard (by rfl) ?_; dsimp only)); refine wpList_load_at rfl 23 (.tmp 18) rfl _ rfl C _ HE.out.1.fc Try.underlying23 rfl HI.out.2.1 ?_)
            | ((with_reducible refine gate_dst (N := 21) rfl ?_); (try (refine gate_guard (by rfl) ?_; dsimp only)); refine wpList_load_at rfl 23 (.tmp 20) rfl _ rfl C' _ HE.out.2.fc Try.underlying23 rfl HI.out.2.2.2 ?_)
            | (go_at_call 89; refine (HSM.out _ HB4.out).mono ?_; rintro e w9 ⟨rfl, hd⟩; have HB9 := Aside0.mk (below_step HB4.out (Drawn0.below hd)); clear hd))
          go_ret
          exact ⟨by rw [HD.out]; first | done | rfl, HB4.out⟩
      | false =>
        go_wp2_with (first
          | ((with_reducible refine gate_dst (N := 12) rfl ?_); (try (refine gate_guard (by rfl) ?_; dsimp only)); refine wpList_load_at rfl 23 (.tmp 11) rfl _ rfl P _ HE.out.1.fp Try.underlying23 rfl HI.out.1 ?_)
          | ((with_reducible refine gate_dst (N := 14) rfl ?_); (try (refine gate_guard (by rfl) ?_; dsimp only)); refine wpList_load_at rfl 23 (.tmp 13) rfl _ rfl P' _ HE.out.2.fp Try.underlying23 rfl HI.out.2.2.1 ?_)
          | ((with_reducible refine gate_dst (N := 19) rfl ?_); (try (refine gate_guard (by rfl) ?_; dsimp only)); refine wpList_load_at rfl 23 (.tmp 18) rfl _ rfl C _ HE.out.1.fc Try.underlying23 rfl HI.out.2.1 ?_)
          | ((with_reducible refine gate_dst (N := 21) rfl ?_); (try (refine gate_guard (by rfl) ?_; dsimp only)); refine wpList_load_at rfl 23 (.tmp 20) rfl _ rfl C' _ HE.out.2.fc Try.underlying23 rfl HI.out.2.2.2 ?_)
          | (go_at_call 89; refine (HSM.out _ HB4.out).mono ?_; rintro e w9 ⟨rfl, hd⟩; have HB9 := Aside0.mk (below_step HB4.out (Drawn0.below hd)); clear hd))
        go_ret
        exact ⟨by rw [HD.out]; first | done | rfl, HB4.out⟩
    | false =>
      go_wp2_with (first
        | ((with_reducible refine gate_dst (N := 12) rfl ?_); (try (refine gate_guard (by rfl) ?_; dsimp only)); refine wpList_load_at rfl 23 (.tmp 11) rfl _ rfl P _ HE.out.1.fp Try.underlying23 rfl HI.out.1 ?_)
        | ((with_reducible refine gate_dst (N := 14) rfl ?_); (try (refine gate_guard (by rfl) ?_; dsimp only)); refine wpList_load_at rfl 23 (.tmp 13) rfl _ rfl P' _ HE.out.2.fp Try.underlying23 rfl HI.out.2.2.1 ?_)
        | ((with_reducible refine gate_dst (N := 19) rfl ?_); (try (refine gate_guard (by rfl) ?_; dsimp only)); refine wpList_load_at rfl 23 (.tmp 18) rfl _ rfl C _ HE.out.1.fc Try.underlying23 rfl HI.out.2.1 ?_)
        | ((with_reducible refine gate_dst (N := 21) rfl ?_); (try (refine gate_guard (by rfl) ?_; dsimp only)); refine wpList_load_at rfl 23 (.tmp 20) rfl _ rfl C' _ HE.out.2.fc Try.underlying23 rfl HI.out.2.2.2 ?_)
        | (go_at_call 89; refine (HSM.out _ HB4.out).mono ?_; rintro e w9 ⟨rfl, hd⟩; have HB9 := Aside0.mk (below_step HB4.out (Drawn0.below hd)); clear hd))
      go_ret
      exact ⟨by rw [HD.out]; first | done | rfl, HB4.out⟩
  · have r1 : (s1 == t1) = false := by simp [c0]
    rw [decide_eq_false c0, Bool.false_and] at HD
    clear c0
    go_wp2_with (first
      | ((with_reducible refine gate_dst (N := 12) rfl ?_); (try (refine gate_guard (by rfl) ?_; dsimp only)); refine wpList_load_at rfl 23 (.tmp 11) rfl _ rfl P _ HE.out.1.fp Try.underlying23 rfl HI.out.1 ?_)
      | ((with_reducible refine gate_dst (N := 14) rfl ?_); (try (refine gate_guard (by rfl) ?_; dsimp only)); refine wpList_load_at rfl 23 (.tmp 13) rfl _ rfl P' _ HE.out.2.fp Try.underlying23 rfl HI.out.2.2.1 ?_)
      | ((with_reducible refine gate_dst (N := 19) rfl ?_); (try (refine gate_guard (by rfl) ?_; dsimp only)); refine wpList_load_at rfl 23 (.tmp 18) rfl _ rfl C _ HE.out.1.fc Try.underlying23 rfl HI.out.2.1 ?_)
      | ((with_reducible refine gate_dst (N := 21) rfl ?_); (try (refine gate_guard (by rfl) ?_; dsimp only)); refine wpList_load_at rfl 23 (.tmp 20) rfl _ rfl C' _ HE.out.2.fc Try.underlying23 rfl HI.out.2.2.2 ?_)
      | (go_at_call 89; refine (HSM.out _ HB4.out).mono ?_; rintro e w9 ⟨rfl, hd⟩; have HB9 := Aside0.mk (below_step HB4.out (Drawn0.below hd)); clear hd))
    go_ret
    exact ⟨by rw [HD.out]; first | done | rfl, HB4.out⟩
set_option maxHeartbeats 8000000 in
set_option maxRecDepth 100000 in
theorem equalF_c (a b : List Ent) (A0 A1 : Option Addr) (c0 c1 : Nat) (w : World) (h0 : Re w A0 a) (h1 : Re w A1 b) (hl : a.length ≤ 1000000) (hl2 : b.length ≤ 1000000) (ha : Lu' a) (hb : Lu' b) :
    Calls Try.prog 82 #[.slice A0 a.length c0, .slice A1 b.length c1, .func (.func 83) #[] #[]] w (RetB w (decide (a = b))) := by
  unfold RetB
  have H0 := Aside0.mk h0
  have H1 := Aside0.mk h1
  have HS := Aside0.mk (And.intro ha hb)
  have HB := Aside0.mk (Below.refl w.heap.size w)
  by_cases hn : a.length = b.length
  · obtain ⟨m, hm⟩ : ∃ m, a.length = m := ⟨_, rfl⟩
    have hm2 : b.length = m := by omega
    rw [hm, hm2]
    have HM := Aside0.mk hm
    have HM2 := Aside0.mk hm2
    rw [hm] at hl
    have q0 : (m : Int) ≤ 1000000 := by omega
    have q1 : ((m : Int) != (m : Int)) = false := by simp
    clear h0 h1 hn hm hm2 hl2 hl ha hb
    go_enter Try.func82, Try.ntmps82
    go_wp2_with (fail)
    go_loopw [7, 8, 9, 17] (fun _ _ _ i wr => ∃ k : Nat, k ≤ m ∧ i = .int .i64 k ∧ Aside0 (a.take k = b.take k) ∧ Below w.heap.size w wr) (fun _ _ _ i _ => m - (intOf i).toNat)
    case atStart => exact ⟨0, Nat.zero_le _, rfl, ⟨rfl⟩, HB.out⟩
    case round =>
      clear HB
      obtain ⟨k, hk, rfl, HTK, hb⟩ := hrel
      have HB := Aside0.mk hb
      clear hb
      obtain ⟨W, hwy⟩ : ∃ wy, wy = wr := ⟨_, rfl⟩
      subst hwy
      by_cases hlt : k < m
      · have hka : k < a.length := by have := HM.out; omega
        have hkb : k < b.length := by have := HM2.out; omega
        obtain ⟨ad0, P, C, B, cb, rfl, hat, hC⟩ := re_at H0.out k hka
        obtain ⟨ad1, P', C', B', cb', rfl, hat', hC'⟩ := re_at H1.out k hkb
        have hEx := HS.out.1 _ (List.getElem_mem hka)
        have hEy := HS.out.2 _ (List.getElem_mem hkb)
        have HX := Aside0.mk (take_snoc a k hka)
        have HY := Aside0.mk (take_snoc b k hkb)
        have hgx : a[k]? = some a[k] := List.getElem?_eq_getElem hka
        have hgy : b[k]? = some b[k] := List.getElem?_eq_getElem hkb
        obtain ⟨x, hxx⟩ : ∃ x, a[k] = x := ⟨_, rfl⟩
        obtain ⟨y, hyy⟩ : ∃ y, b[k] = y := ⟨_, rfl⟩
        rw [hxx] at hat hC hEx HX hgx
        rw [hyy] at hat' hC' hEy HY hgy
        have HNE := Aside0.mk (fun (h : x ≠ y) => show a ≠ b from fun e => h (Option.some.inj (hgx.symm.trans ((congrArg (fun l => l[k]?) e).trans hgy))))
        have HSM := Aside0.mk (fun V (hV : Below w.heap.size w V) => same1_c x y hEx hEy P C P' C' B B' cb cb' V (hC.below hV) (hC'.below hV))
        unfold RetB at HSM
        have HIX := Aside0.mk (show (Try.prog.info? 27).map (·.size) = some (cE x P C B cb).toArray.size from by rw [List.size_toArray]; exact hC.info)
        have HIY := Aside0.mk (show (Try.prog.info? 27).map (·.size) = some (cE y P' C' B' cb').toArray.size from by rw [List.size_toArray]; exact hC'.info)
        have HIXL := Aside0.mk hC.info
        have HIYL := Aside0.mk hC'.info
        have HOX := Aside0.mk hC.one
        have HOY := Aside0.mk hC'.one
        have HXL := Aside0.mk hC.len
        have HYL := Aside0.mk hC'.len
        have HAX := Aside0.mk (fun V (hV : Below W.heap.size W V) => (hat.below HB.out).below hV)
        have HAY := Aside0.mk (fun V (hV : Below W.heap.size W V) => (hat'.below HB.out).below hV)
        obtain ⟨X, hX⟩ : ∃ X, cE x P C B cb = X := ⟨_, rfl⟩
        obtain ⟨Y, hY⟩ : ∃ Y, cE y P' C' B' cb' = Y := ⟨_, rfl⟩
        have HSM := Aside0.mk (fun V hV => show Calls Try.prog 83 #[.agg (cE x P C B cb).toArray, .agg (cE y P' C' B' cb').toArray] V _ from HSM.out V hV)
        rw [hX] at HIX HIXL HOX HXL HAX HSM
        rw [hY] at HIY HIYL HOY HYL HAY HSM
        have hk0 : (0 : Int) ≤ (k : Int) := by omega
        have hk1 : (k : Int) < (m : Int) := by omega
        have hu24 := Try.underlying23
        have hu27 := Try.underlying27
        have HK := Aside0.mk hlt
        clear hat hat' hC hC' hEx hEy hgx hgy hxx hyy hX hY hlt hk hka hkb
        have HYa := Aside0.mk (show (W.alloc (.cells zE.toArray 27)).heap[W.heap.size]? = some (.cells zE.toArray 27 (0, 0)) from blk_new _ _)
        have HBa := Aside0.mk (show Below W.heap.size W ((W.alloc (.cells zE.toArray 27)).setRow W.heap.size X.toArray) from below_setRow (below_alloc (Below.refl _ _) _) (Nat.le_refl _) _)
        have HXa := Aside0.mk (atC_blk (setRow_heap (W.alloc (.cells zE.toArray 27)) W.heap.size zE.toArray X.toArray _ _ HYa.out))
        go_upto_region 6 with (first
          | ((with_reducible refine gate_dst (N := 21) rfl ?_); refine wpList_load_at rfl 27 (.tmp 20) rfl (ad0.add (k * 68)) rfl X _ (HAX.out _ (Below.refl _ _)) Try.underlying27 rfl HIXL.out ?_)
          | ((with_reducible refine gate_store (t := 27) (p := 8) (v := .tmp 21) rfl ?_); refine wpList_store_row rfl 27 (.tmp 8) (.tmp 21) rfl W.heap.size X.toArray rfl rfl 27 zE.toArray HYa.out HIX.out (by rw [List.size_toArray, List.size_toArray, zE_len, HXL.out]) HOX.out ?_))
        obtain ⟨W1, hW1⟩ : ∃ V, (W.alloc (.cells zE.toArray 27)).setRow W.heap.size X.toArray = V := ⟨_, rfl⟩
        rw [hW1] at HBa HXa
        rw [show (W.alloc (.cells Try.zeroCells27 27)).setRow W.heap.size X.toArray = W1 from hW1]
        obtain ⟨g6, hg6⟩ : ∃ g, W.heap.size = g := ⟨_, rfl⟩
        have HAY1 := Aside0.mk (HAY.out _ HBa.out)
        have HBW := Aside0.mk (below_step HB.out HBa.out)
        rw [hg6] at HXa ⊢
        clear hW1 HYa HBa HAX HAY hg6
        have HYb := Aside0.mk (show (W1.alloc (.cells zE.toArray 27)).heap[W1.heap.size]? = some (.cells zE.toArray 27 (0, 0)) from blk_new _ _)
        have HBb := Aside0.mk (show Below W1.heap.size W1 ((W1.alloc (.cells zE.toArray 27)).setRow W1.heap.size Y.toArray) from below_setRow (below_alloc (Below.refl _ _) _) (Nat.le_refl _) _)
        have HXb := Aside0.mk (atC_blk (setRow_heap (W1.alloc (.cells zE.toArray 27)) W1.heap.size zE.toArray Y.toArray _ _ HYb.out))
        go_upto_region 7 with (first
          | ((with_reducible refine gate_dst (N := 25) rfl ?_); refine wpList_load_at rfl 27 (.tmp 24) rfl (ad1.add (k * 68)) rfl Y _ HAY1.out Try.underlying27 rfl HIYL.out ?_)
          | ((with_reducible refine gate_store (t := 27) (p := 9) (v := .tmp 25) rfl ?_); refine wpList_store_row rfl 27 (.tmp 9) (.tmp 25) rfl W1.heap.size Y.toArray rfl rfl 27 zE.toArray HYb.out HIY.out (by rw [List.size_toArray, List.size_toArray, zE_len, HYL.out]) HOY.out ?_))
        have HXa2 := Aside0.mk (HXa.out.below HBb.out)
        have HBV := Aside0.mk (below_step HBW.out HBb.out)
        obtain ⟨W2, hW2⟩ : ∃ V, (W1.alloc (.cells zE.toArray 27)).setRow W1.heap.size Y.toArray = V := ⟨_, rfl⟩
        rw [hW2] at HXa2 HXb HBV
        rw [show (W1.alloc (.cells Try.zeroCells27 27)).setRow W1.heap.size Y.toArray = W2 from hW2]
        obtain ⟨g7, hg7⟩ : ∃ g, W1.heap.size = g := ⟨_, rfl⟩
        rw [hg7] at HXb ⊢
        clear hW2 HYb HBb HXa HAY1 HBW hg7
        go_wp2_with (first
          | ((with_reducible refine gate_dst (N := 27) rfl ?_); refine wpList_load_at rfl 27 (.tmp 8) rfl ⟨g6, 0, none⟩ rfl X _ HXa2.out Try.underlying27 rfl HIXL.out ?_)
          | ((with_reducible refine gate_dst (N := 28) rfl ?_); refine wpList_load_at rfl 27 (.tmp 9) rfl ⟨g7, 0, none⟩ rfl Y _ HXb.out Try.underlying27 rfl HIYL.out ?_))
        refine (HSM.out _ HBV.out).mono ?_
        rintro e w5 ⟨rfl, hb⟩
        have HB5 := Aside0.mk (below_step HBV.out hb)
        clear hb
        by_cases hxy : x = y
        · have HEQ := Aside0.mk (show a.take (k + 1) = b.take (k + 1) from by rw [HX.out, HY.out, HTK.out, hxy])
          rw [decide_eq_true hxy]
          clear hxy
          go_wp2_with (fail)
          go_roundw
          case rel => exact ⟨k + 1, by have := HK.out; omega, by go_num, HEQ, HB5.out⟩
          case measure => have := HK.out; simp [intOf]; omega
        · have HN := Aside0.mk (HNE.out hxy)
          rw [decide_eq_false hxy]
          clear hxy
          go_wp2_with (fail)
          go_ret
          exact ⟨(congrArg (fun b => Ending.returned (Value.bool b)) (decide_eq_false HN.out).symm), HB5.out⟩
      · have hkm : k = m := by omega
        subst hkm
        have HF := Aside0.mk (show a = b by
          have h := HTK.out
          rwa [List.take_of_length_le (by have := HM.out; omega), List.take_of_length_le (by have := HM2.out; omega)] at h)
        clear hlt hk
        go_wp2_with (fail)
        go_ret
        exact ⟨(congrArg (fun b => Ending.returned (Value.bool b)) (decide_eq_true HF.out).symm), HB.out⟩
  · have HF := Aside0.mk (show a ≠ b from fun h => hn (by rw [h]))
    have e1 : ((a.length : Int) == (b.length : Int)) = false := by rw [beq_eq_false_iff_ne]; omega
    have e2 : ((a.length : Int) != (b.length : Int)) = true := by rw [bne_iff_ne]; omega
    have e3 : (a.length == b.length) = false := by rw [beq_eq_false_iff_ne]; exact hn
    have hn2 : ¬ a.length = b.length := hn
    clear h0 h1 hl hl2 hn ha hb
    go_enter Try.func82, Try.ntmps82
    go_wp2_with (fail)
    go_ret
    exact ⟨(congrArg (fun b => Ending.returned (Value.bool b)) (decide_eq_false HF.out).symm), HB.out⟩
set_option maxHeartbeats 8000000 in
set_option maxRecDepth 100000 in
theorem csame_c (a b : List Ent) (A0 A1 : Option Addr) (c0 c1 : Nat) (w : World) (h0 : Re w A0 a) (h1 : Re w A1 b) (hl : a.length ≤ 1000000) (hl2 : b.length ≤ 1000000) (ha : Lu' a) (hb : Lu' b) :
    Calls Try.prog 43 #[.slice A0 a.length c0, .slice A1 b.length c1] w (RetB w (decide (a = b))) := by
  have HE := Aside0.mk (equalF_c a b A0 A1 c0 c1 w h0 h1 hl hl2 ha hb)
  unfold RetB at HE ⊢
  clear h0 h1 hl hl2 ha hb
  go_enter Try.func43, Try.ntmps43
  go_wp2_with (fail)
  refine HE.out.mono ?_
  rintro e w2 ⟨rfl, hb⟩
  have HB := Aside0.mk hb
  clear hb
  go_wp2_with (fail)
  go_ret
  exact ⟨rfl, HB.out⟩
end Go.Proofs.Ytfpkgdenohcglaa.Chn
/- Few; the law's example. -/
namespace Go.Proofs.Ytfpkgdenohcglaa.Chn
set_option linter.unusedVariables false
set_option linter.unusedSimpArgs false
open Go.RowKit Go.Proofs.Ytfpkgdenohcglaa.Base Go.Proofs.Ytfpkgdenohcglaa.TlvPlain Go.Proofs.Ytfpkgdenohcglaa.ShaPlain Go.Proofs.Ytfpkgdenohcglaa.Sha Go.Proofs.Ytfpkgdenohcglaa.Com Go.Proofs.Ytfpkgdenohcglaa.Aid Go.Proofs.YtfpkgdenohcglaaW.PrintWords Go.Proofs.YtfpkgdenohcglaaW.PrintLast Go.Proofs.YtfpkgdenohcglaaW.PrintMore
attribute [local irreducible] shaB
def fewT (l : List Ent) : Bool := (l.take 20).all (fun x => decide ((payE x).length ≤ 300)) && decide (l.length ≤ 12)
theorem fewT_yes {l : List Ent} (h : fewT l = true) : l.length ≤ 12 ∧ ∀ x ∈ l, (payE x).length ≤ 300 := by
  unfold fewT at h
  rw [Bool.and_eq_true, List.all_eq_true, decide_eq_true_eq] at h
  refine ⟨h.2, fun x hx => ?_⟩
  have h2 := h.1 x (by rw [List.take_of_length_le (by omega)]; exact hx)
  exact of_decide_eq_true h2
theorem few_bad (l : List Ent) (k : Nat) (hk : k < l.length) (h20 : k < 20) (h : 300 < (payE l[k]).length) : fewT l = false := by
  unfold fewT
  rw [Bool.and_eq_false_iff]
  left
  rw [List.all_eq_false]
  exact ⟨l[k], List.mem_iff_getElem.2 ⟨k, by simp; omega, by simp⟩, by simp; omega⟩
theorem few_end (l : List Ent) (k : Nat) (hk : k ≤ l.length) (h : k < l.length → 20 ≤ k) (hs : ∀ x ∈ l.take k, (payE x).length ≤ 300) : fewT l = decide (l.length ≤ 12) := by
  unfold fewT
  have h1 : (l.take 20).all (fun x => decide ((payE x).length ≤ 300)) = true := by
    rw [List.all_eq_true]
    intro x hx
    refine decide_eq_true (hs x ?_)
    by_cases hkl : k < l.length
    · have := h hkl
      exact List.mem_of_mem_take (by rw [List.take_take, Nat.min_eq_left this]; exact hx)
    · rw [List.take_of_length_le (by omega)]
      exact List.mem_of_mem_take hx
  rw [h1, Bool.true_and]
set_option maxHeartbeats 4000000 in
set_option maxRecDepth 100000 in
theorem few_c (l : List Ent) (m : Nat) (hl : l.length = m) (hm : m ≤ 9223372036854775807) (A : Option Addr) (c : Nat) (w : World) (hr : Re w A l) :
    Calls Try.prog 11 #[.slice A m c] w (RetB w (fewT l)) := by
  unfold RetB
  have HR := Aside0.mk hr
  have HL := Aside0.mk hl
  have HM := Aside0.mk hm
  clear hl hr hm
  go_enter Try.func11, Try.ntmps11
  have HB := Aside0.mk (Below.refl w.heap.size w)
  go_wp2_with (fail)
  go_loopw [3] (fun i wr => ∃ k : Nat, k ≤ m ∧ k ≤ 20 ∧ i = .int .i64 k ∧ Aside0 (∀ x ∈ l.take k, (payE x).length ≤ 300) ∧ Below w.heap.size w wr) (fun i _ => 20 - (intOf i).toNat)
  case atStart => exact ⟨0, Nat.zero_le _, Nat.zero_le _, rfl, ⟨fun x hx => by simp at hx⟩, HB.out⟩
  case round =>
    clear HB
    obtain ⟨k, hk, hk20, rfl, HS, hb⟩ := hrel
    have HB := Aside0.mk hb
    clear hb
    obtain ⟨W, hwy⟩ : ∃ wy, wy = wr := ⟨_, rfl⟩
    subst hwy
    by_cases hlt : k < m
    · by_cases h20 : k < 20
      · have hkl : k < l.length := by rw [HL.out]; exact hlt
        obtain ⟨ad, P, C, B, cb, rfl, hat, hC⟩ := re_at HR.out k hkl
        have hpy : W.cell? ⟨(ad.add (k * 68)).block, (ad.add (k * 68)).off + 66, none⟩ = some (.slice B (payE l[k]).length cb) := ((entF hC.fp.lenC hC.fc.lenC hat).below HB.out).py
        have HBAD := Aside0.mk (few_bad l k hkl h20)
        have HTK := Aside0.mk (take_snoc l k hkl)
        obtain ⟨x, hx⟩ : ∃ x, l[k] = x := ⟨_, rfl⟩
        rw [hx] at hpy HBAD HTK
        obtain ⟨n, hn⟩ : ∃ n, (payE x).length = n := ⟨_, rfl⟩
        rw [hn] at hpy HBAD
        have HN := Aside0.mk hn
        have HK := Aside0.mk (And.intro hlt h20)
        have p0 : (0 : Int) ≤ (k : Int) := by omega
        have p1 : (k : Int) < (m : Int) := by omega
        have p2 : (k : Int) < 20 := by omega
        have d1 : decide ((k : Int) < (m : Int)) = true := decide_eq_true p1
        have d2 : decide ((k : Int) < 20) = true := decide_eq_true p2
        have d3 : decide (k < m) = true := decide_eq_true hlt
        clear hat hC hx hn hkl hlt h20 hk hk20
        by_cases hp : 300 < n
        · have e1 : decide ((300 : Int) < (n : Int)) = true := decide_eq_true (by omega)
          have e2 : decide (300 < n) = true := decide_eq_true hp
          have HF := Aside0.mk (HBAD.out hp)
          clear hp
          go_wp2_with (fail)
          go_ret
          exact ⟨(congrArg (fun b => Ending.returned (Value.bool b)) HF.out).symm, HB.out⟩
        · have e1 : decide ((300 : Int) < (n : Int)) = false := decide_eq_false (by omega)
          have e2 : decide (300 < n) = false := decide_eq_false hp
          have HS2 := Aside0.mk (show ∀ y ∈ l.take (k + 1), (payE y).length ≤ 300 from by
            rw [HTK.out]
            intro y hy
            rcases List.mem_append.1 hy with h | h
            · exact HS.out y h
            · rw [List.mem_singleton.1 h, HN.out]; omega)
          clear hp
          go_wp2_with (fail)
          go_roundw
          case rel => exact ⟨k + 1, by have := HK.out.1; omega, by have := HK.out.2; omega, by go_num, HS2, HB.out⟩
          case measure => have := HK.out.2; simp [intOf]; omega
      · have hk2 : k = 20 := by omega
        subst hk2
        have HF := Aside0.mk (few_end l 20 (by rw [HL.out]; omega) (fun _ => Nat.le_refl _) HS.out)
        rw [HL.out] at HF
        have p1 : (20 : Int) < (m : Int) := by omega
        have d1 : decide ((20 : Int) < (m : Int)) = true := decide_eq_true p1
        have d3 : decide (20 < m) = true := decide_eq_true hlt
        have e1 : decide ((m : Int) ≤ 12) = false := decide_eq_false (by omega)
        have e2 : decide (m ≤ 12) = false := decide_eq_false (by omega)
        rw [e2] at HF
        clear hlt h20 hk hk20
        go_wp2_with (fail)
        go_ret
        exact ⟨(congrArg (fun b => Ending.returned (Value.bool b)) HF.out).symm, HB.out⟩
    · have hkm : k = m := by omega
      subst hkm
      have HF := Aside0.mk (few_end l k (by rw [HL.out]; omega) (fun h => by rw [HL.out] at h; omega) HS.out)
      rw [HL.out] at HF
      obtain ⟨b, hb⟩ : ∃ b, decide (k ≤ 12) = b := ⟨_, rfl⟩
      have e1 : decide ((k : Int) ≤ 12) = b := by rw [← hb]; by_cases h : k ≤ 12 <;> simp [h] <;> omega
      rw [hb] at HF
      clear hlt hk hk20
      go_wp2_with (fail)
      go_ret
      exact ⟨(congrArg (fun b => Ending.returned (Value.bool b)) HF.out).symm, HB.out⟩
set_option maxHeartbeats 4000000 in
theorem num24_c (n : Int) (w : World) : Calls Try.prog 21 #[.int .i64 n] w fun e w' => e = .returned (.int .i64 n) ∧ w' = w := by
  go_enter Try.func21, Try.ntmps21
  go_wp2_with (fail)
  go_ret
  exact ⟨rfl, rfl⟩
def x0 : Ent := newE [] 5 [97]
def x1 : Ent := newE [x0] 6 [98]
theorem cutE_u {x : Ent} (h : Eu x) : Eu (cutE x) := ⟨h.pl, h.pu, h.cl, h.cu, Int.le_refl _, by show (0 : Int) ≤ _; decide, fun y hy => by cases hy⟩
theorem newE_u (l : List Ent) {salt : Int} {pay : List Int} (h0 : 0 ≤ salt) (h1 : salt ≤ 18446744073709551615) (hp : U8 pay) : Eu (newE l salt pay) := ⟨headT_len _, headT_u8 _, comH_len _ _, comH_u8 _ _, h0, h1, hp⟩
theorem x0_u : Eu x0 := show Eu (newE [] 5 [97]) from newE_u [] (by decide) (by decide) (fun y hy => by rw [List.mem_singleton.1 hy]; decide)
theorem x1_u : Eu x1 := show Eu (newE [x0] 6 [98]) from newE_u [x0] (by decide) (by decide) (fun y hy => by rw [List.mem_singleton.1 hy]; decide)
theorem live_ver : verT [cutE x0, x1] (headT [x0, x1]) 2 = (2, true) := by
  have h0 : okT 0 Z (cutE x0) = true := by
    unfold okT rightT
    rw [if_pos (show redE (cutE x0) = true from rfl), show seqE (cutE x0) = ((0 : Nat) : Int) from rfl, show prevE (cutE x0) = Z from rfl, show saltE (cutE x0) = 0 from rfl, show payE (cutE x0) = [] from rfl]
    simp
  have h1 : okT 1 (linkT (cutE x0)) x1 = true := by
    unfold okT rightT
    rw [if_neg (show ¬ redE x1 = true from by decide), show seqE x1 = ((1 : Nat) : Int) from rfl, show prevE x1 = linkT (cutE x0) from rfl, show comE x1 = comH (saltE x1) (payE x1) from rfl]
    simp
  have hb : badT [cutE x0, x1] 0 Z = none := by
    unfold badT
    rw [if_pos h0]
    unfold badT
    rw [if_pos h1]
    rfl
  unfold verT
  rw [hb]
  have h2 : headT [cutE x0, x1] = headT [x0, x1] := rfl
  rw [h2]
  simp
theorem m_u : Lu' [cutE x0, x1] := fun y hy => by
  rcases List.mem_cons.1 hy with h | h
  · rw [h]; exact cutE_u x0_u
  · rw [List.mem_singleton.1 h]; exact x1_u
theorem l1_u : Lu' [x0] := fun y hy => by rw [List.mem_singleton.1 hy]; exact x0_u
theorem l2_u : Lu' [x0, x1] := fun y hy => by
  rcases List.mem_cons.1 hy with h | h
  · rw [h]; exact x0_u
  · rw [List.mem_singleton.1 h]; exact x1_u
theorem nil_re (w : World) : Re w none [] := Kd.C_nil _ _
theorem add_l1 (w : World) (B : Option Addr) (h : Rb w B [97]) : Calls Try.prog 13 #[.slice none 0 0, .int .u64 5, .slice B 1 1] w (RetE w [x0]) :=
  add_c [] 0 rfl (by decide) (fun x hx => by cases hx) none 0 (by decide) 5 (by decide) (by decide) [97] (fun y hy => by rw [List.mem_singleton.1 hy]; decide) (by decide) B 1 (by decide) w (nil_re w) h
theorem add_l2 (w : World) (A : Option Addr) (c : Nat) (hc : 1 ≤ c) (hr : Re w A [x0]) (B : Option Addr) (h : Rb w B [98]) : Calls Try.prog 13 #[.slice A 1 c, .int .u64 6, .slice B 1 1] w (RetE w [x0, x1]) :=
  add_c [x0] 1 rfl (by decide) l1_u A c hc 6 (by decide) (by decide) [98] (fun y hy => by rw [List.mem_singleton.1 hy]; decide) (by decide) B 1 (by decide) w hr h
theorem red_l (w : World) (A : Option Addr) (c : Nat) (hc : 2 ≤ c) (hr : Re w A [x0, x1]) : Calls Try.prog 15 #[.slice A 2 c, .int .i64 0] w (RetR w ([cutE x0, x1], 0)) :=
  redact_in [x0, x1] 2 rfl (by decide) 0 (by decide) A c hc w hr
theorem head_l (w : World) (A : Option Addr) (c : Nat) (hr : Re w A [x0, x1]) : Calls Try.prog 22 #[.slice A 2 c] w (Ret w (headT [x0, x1])) :=
  head_c [x0, x1] 2 rfl (by decide) l2_u A c w hr
theorem ver_l (w : World) (A : Option Addr) (c : Nat) (hr : Re w A [cutE x0, x1]) : Calls Try.prog 17 #[.slice A 2 c, sumV (headT [x0, x1]), .int .i64 2] w (RetIB w (2, true)) := by
  have h := verify_c [cutE x0, x1] 2 rfl (by decide) m_u (fun y hy => by
    rcases List.mem_cons.1 hy with h | h
    · rw [h]; exact Nat.zero_le _
    · rw [List.mem_singleton.1 h]; show [(98 : Int)].length ≤ 100000; decide) (headT [x0, x1]) (headT_len _) 2 A c w hr
  rw [live_ver] at h
  exact h
set_option maxHeartbeats 8000000 in
set_option maxRecDepth 100000 in
theorem live24_c (w : World) : Calls Try.prog 12 #[] w (RetB w true) := by
  have kc := fun (w : World) (C : Array Value) (n c : Nat) => Lib.run_convert_bytes_const (P := Try.prog) w 25 5 C n c Try.underlying25 Try.underlying5
  obtain ⟨D, hD⟩ := sumC (headT [x0, x1]) (headT_len _)
  have HH := Aside0.mk head_l
  have HV := Aside0.mk ver_l
  unfold Ret at HH
  rw [hD.v] at HH HV
  unfold RetB
  clear hD
  go_enter Try.func12, Try.ntmps12
  go_wp2_with (fail)
  refine (add_l1 _ _ (const_reads _ [97] #[.int .u8 97] (1, 2) rfl (by simp))).mono ?_
  rintro e w1 ⟨v1, rfl, hr1, hb0⟩
  have HB1 := Aside0.mk (below_step (below_alloc (Below.refl w.heap.size w) _) hb0)
  obtain ⟨A1, c1, rfl, hc1, hre1⟩ := hr1.reads
  have HR1 := Aside0.mk (And.intro hc1 hre1)
  clear hr1 hb0 hc1 hre1
  go_wp2_with (fail)
  refine (add_l2 _ A1 c1 HR1.out.1 (Kd.C_below HR1.out.2 (below_alloc (Below.refl _ _) _)) _ (const_reads _ [98] #[.int .u8 98] (1, 2) rfl (by simp))).mono ?_
  rintro e w2 ⟨v2, rfl, hr2, hb0⟩
  have HB2 := Aside0.mk (below_step HB1.out (below_step (below_alloc (Below.refl w1.heap.size w1) _) hb0))
  obtain ⟨A2, c2, rfl, hc2, hre2⟩ := hr2.reads
  have HR2 := Aside0.mk (And.intro hc2 hre2)
  clear hr2 hb0 hc2 hre2
  go_wp2_with (fail)
  refine (red_l _ A2 c2 HR2.out.1 HR2.out.2).mono ?_
  rintro e w3 ⟨v3, rfl, hr3, hb3⟩
  have HB3 := Aside0.mk (below_step HB2.out hb3)
  have HR23 := Aside0.mk (Kd.C_below HR2.out.2 hb3)
  obtain ⟨A3, c3, rfl, hc3, hre3⟩ := hr3.reads
  obtain ⟨ad, P, C, B, cb, rfl, hat, hC⟩ := re_at hre3 0 (by decide)
  have HEF := Aside0.mk (entF hC.fp.lenC hC.fc.lenC hat)
  have HR3 := Aside0.mk hre3
  clear hr3 hb3 hc3 hre3 hat hC
  go_wp2_with (fail)
  refine (HH.out _ A2 c2 HR23.out).mono ?_
  rintro e w4 ⟨rfl, hb4⟩
  have HB4 := Aside0.mk (below_step HB3.out hb4)
  have HR4 := Aside0.mk (Kd.C_below HR3.out hb4)
  have HEF4 := Aside0.mk (HEF.out.below hb4)
  clear hb4
  go_wp2_with (fail)
  refine (HV.out _ (some ad) c3 HR4.out).mono ?_
  rintro e w5 ⟨rfl, hb5⟩
  have HB5 := Aside0.mk (below_step HB4.out hb5)
  have h5 := (HEF4.out.below hb5).r
  have h6 : w5.cell? ⟨ad.block, ad.off + 67, none⟩ = some (.bool true) := h5
  clear hb5 h5
  go_wp2_with (go_at_call 21; refine (num24_c 0 _).mono ?_; rintro e w6 ⟨rfl, rfl⟩)
  go_ret
  exact ⟨rfl, HB5.out⟩
end Go.Proofs.Ytfpkgdenohcglaa.Chn
/- The law ChainAdds walked. -/
namespace Go.Proofs.Ytfpkgdenohcglaa.Chn
set_option linter.unusedVariables false
set_option linter.unusedSimpArgs false
open Go.RowKit Go.Proofs.Ytfpkgdenohcglaa.Base Go.Proofs.Ytfpkgdenohcglaa.TlvPlain Go.Proofs.Ytfpkgdenohcglaa.ShaPlain Go.Proofs.Ytfpkgdenohcglaa.Sha Go.Proofs.Ytfpkgdenohcglaa.Com Go.Proofs.Ytfpkgdenohcglaa.Aid Go.Proofs.YtfpkgdenohcglaaW.PrintWords Go.Proofs.YtfpkgdenohcglaaW.PrintLast Go.Proofs.YtfpkgdenohcglaaW.PrintMore
theorem esame_eq (a : List Ent) (A0 A1 : Option Addr) (c0 c1 : Nat) (w : World) (h0 : Re w A0 a) (h1 : Re w A1 a) (hl : a.length ≤ 1000000) (hs : ∀ x ∈ a, (payE x).length ≤ 1000000) (ha : Lu' a) :
    Calls Try.prog 20 #[.slice A0 a.length c0, .slice A1 a.length c1] w (RetB w true) := by
  have h := esame_c a a A0 A1 c0 c1 w h0 h1 hl hl hs ha ha
  rwa [decide_eq_true rfl] at h
/-- What has been made so far stays. -/
structure AddsI (w W : World) (g : Nat) (x : Ent) (P C : List Value) (B : Option Addr) (cb : Nat) : Prop where
  b : Below w.heap.size w W
  e : EntAt W g x P C B cb
theorem AddsI.step {w W W' : World} {g : Nat} {x : Ent} {P C : List Value} {B : Option Addr} {cb : Nat} (h : AddsI w W g x P C B cb) (hb : Below W.heap.size W W') : AddsI w W' g x P C B cb := ⟨below_step h.b hb, h.e.below hb⟩
end Go.Proofs.Ytfpkgdenohcglaa.Chn
/- The law ChainBack walked (printed by gen_chnback.py). -/
namespace Go.Proofs.Ytfpkgdenohcglaa.Chn
set_option linter.unusedVariables false
set_option linter.unusedSimpArgs false
open Go.RowKit Go.Proofs.Ytfpkgdenohcglaa.Lo Go.Proofs.Ytfpkgdenohcglaa.RdPlain Go.Proofs.Ytfpkgdenohcglaa.Base Go.Proofs.Ytfpkgdenohcglaa.TlvPlain Go.Proofs.Ytfpkgdenohcglaa.ShaPlain Go.Proofs.Ytfpkgdenohcglaa.Sha Go.Proofs.Ytfpkgdenohcglaa.Com Go.Proofs.Ytfpkgdenohcglaa.Aid Go.Proofs.YtfpkgdenohcglaaW.PrintWords Go.Proofs.YtfpkgdenohcglaaW.PrintLast Go.Proofs.YtfpkgdenohcglaaW.PrintMore
open Tlv (RdO takeO_ okO numO_ textO_ leftO_ newO)
attribute [local irreducible] shaB
/-- salt, payload, out -/
abbrev Fct := Int × List Int × Bool
structure FctAt (W : World) (ad : Addr) (f : Fct) (B : Option Addr) (c : Nat) : Prop where
  s : W.cell? ad = some (.int .u64 f.1)
  p : W.cell? ⟨ad.block, ad.off + 1, none⟩ = some (.slice B f.2.1.length c)
  o : W.cell? ⟨ad.block, ad.off + 2, none⟩ = some (.bool f.2.2)
  hc : f.2.1.length ≤ c
  r : Rb W B f.2.1
theorem FctAt.below {W W' : World} {ad : Addr} {f : Fct} {B : Option Addr} {c : Nat} (h : FctAt W ad f B c) (hb : Below W.heap.size W W') : FctAt W' ad f B c := ⟨cell_below hb h.s, cell_below hb h.p, cell_below hb h.o, h.hc, Kd.C_below h.r hb⟩
structure FctOk (f : Fct) : Prop where
  s0 : 0 ≤ f.1
  s1 : f.1 ≤ 18446744073709551615
  u : U8 f.2.1
end Go.Proofs.Ytfpkgdenohcglaa.Chn
/- The law ChainGets walked (printed by gen_chngets.py). -/
namespace Go.Proofs.Ytfpkgdenohcglaa.Chn
set_option linter.unusedVariables false
set_option linter.unusedSimpArgs false
open Go.RowKit Go.Proofs.Ytfpkgdenohcglaa.Lo Go.Proofs.Ytfpkgdenohcglaa.RdPlain Go.Proofs.Ytfpkgdenohcglaa.Base Go.Proofs.Ytfpkgdenohcglaa.TlvPlain Go.Proofs.Ytfpkgdenohcglaa.ShaPlain Go.Proofs.Ytfpkgdenohcglaa.Sha Go.Proofs.Ytfpkgdenohcglaa.Com Go.Proofs.Ytfpkgdenohcglaa.Aid Go.Proofs.YtfpkgdenohcglaaW.PrintWords Go.Proofs.YtfpkgdenohcglaaW.PrintLast Go.Proofs.YtfpkgdenohcglaaW.PrintMore
open Tlv (RdO takeO_ okO numO_ textO_ leftO_ newO)
attribute [local irreducible] shaB
theorem getN_good : ∀ (n : Nat) (bs : List Int) (l : List Ent), U8 bs → Lu' l → (∀ x ∈ l, (payE x).length ≤ 100) → l.length ≤ 120 → Lu' (getN n bs l).1 ∧ (∀ x ∈ (getN n bs l).1, (payE x).length ≤ 100) ∧ (getN n bs l).1.length ≤ 120 := by
  have hfin : ∀ (bs : List Int) (l : List Ent), Lu' l → (∀ x ∈ l, (payE x).length ≤ 100) → l.length ≤ 120 → Lu' (finC bs l).1 ∧ (∀ x ∈ (finC bs l).1, (payE x).length ≤ 100) ∧ (finC bs l).1.length ≤ 120 := by
    intro bs l h1 h2 h3
    unfold finC
    split
    · exact ⟨h1, h2, h3⟩
    · exact ⟨(fun _ h => by cases h), (fun _ h => by cases h), Nat.zero_le _⟩
  have hnil : Lu' ([] : List Ent) ∧ (∀ x ∈ ([] : List Ent), (payE x).length ≤ 100) ∧ ([] : List Ent).length ≤ 120 := ⟨(fun _ h => by cases h), (fun _ h => by cases h), Nat.zero_le _⟩
  intro n
  induction n with
  | zero => intro bs l _ h1 h2 h3; exact hfin bs l h1 h2 h3
  | succ n ih =>
    intro bs l hu h1 h2 h3
    rw [getN]
    split
    · cases hr : readE (some bs) (l.length : Int) (headT l) with
      | none => exact hnil
      | some p =>
        obtain ⟨x, r⟩ := p
        dsimp only
        split
        · exact hnil
        · next h120 =>
          have hxr := read_some hr
          have hub := fun bs' (e : some bs = some bs') => show U8 bs' from by cases e; exact hu
          have hru := rd_u8 (st := some bs) hub
          have hEu : Eu x := by rw [hxr.1]; exact entR_eu hub (headT_len _) (headT_u8 _)
          refine ih r (l ++ [x]) (hru.2.2.2.2.2 r hxr.2.2) ?_ ?_ (by rw [List.length_append, List.length_singleton]; omega)
          · intro y hy
            rcases List.mem_append.1 hy with hy | hy
            · exact h1 y hy
            · rw [List.mem_singleton.1 hy]; exact hEu
          · intro y hy
            rcases List.mem_append.1 hy with hy | hy
            · exact h2 y hy
            · rw [List.mem_singleton.1 hy, hxr.1]; exact hru.2.2.2.2.1
    · exact hfin bs l h1 h2 h3
theorem getC_good {b : List Int} (hu : U8 b) : Lu' (getC b).1 ∧ (∀ x ∈ (getC b).1, (payE x).length ≤ 100) ∧ (getC b).1.length ≤ 120 :=
  getN_good b.length b [] hu (fun _ h => by cases h) (fun _ h => by cases h) (Nat.zero_le _)
set_option maxHeartbeats 8000000 in
set_option maxRecDepth 100000 in
theorem gets_no (l : List Ent) (m : Nat) (hl : l.length = m) (hm : m ≤ 9223372036854775807) (b : List Int) (nb : Nat) (hb : b.length = nb) (A A' : Option Addr) (c c' : Nat) (w : World) (hr : Re w A l) (h : fewT l = false ∨ 3000 < nb) :
    Calls Try.prog 8 #[.slice A m c, .slice A' nb c'] w (RetB w true) := by
  have HFA := Aside0.mk (few_c l m hl hm A c w hr)
  unfold RetB at HFA ⊢
  obtain ⟨fa, hfa⟩ : ∃ v, fewT l = v := ⟨_, rfl⟩
  rw [hfa] at HFA h
  clear hr hl hm hfa hb
  cases fa with
  | false =>
    clear h
    go_enter Try.func8, Try.ntmps8
    go_wp2_with (fail)
    refine HFA.out.mono ?_
    rintro e w1 ⟨rfl, hb⟩
    have HB1 := Aside0.mk hb
    clear hb
    go_wp2_with (fail)
    refine (live24_c _).mono ?_
    rintro e w2 ⟨rfl, hb⟩
    have HB2 := Aside0.mk (below_step HB1.out hb)
    clear hb
    go_wp2_with (fail)
    go_ret
    exact ⟨rfl, HB2.out⟩
  | true =>
    have h2 : 3000 < nb := by rcases h with h | h; cases h; exact h
    have q0 : decide ((3000 : Int) < (nb : Int)) = true := decide_eq_true (by omega)
    have q1 : decide (3000 < nb) = true := decide_eq_true h2
    clear h h2
    go_enter Try.func8, Try.ntmps8
    go_wp2_with (fail)
    refine HFA.out.mono ?_
    rintro e w1 ⟨rfl, hb⟩
    have HB1 := Aside0.mk hb
    clear hb
    go_wp2_with (fail)
    refine (live24_c _).mono ?_
    rintro e w2 ⟨rfl, hb⟩
    have HB2 := Aside0.mk (below_step HB1.out hb)
    clear hb
    go_wp2_with (fail)
    go_ret
    exact ⟨rfl, HB2.out⟩
set_option maxHeartbeats 8000000 in
set_option maxRecDepth 100000 in
theorem gets_main (l : List Ent) (m : Nat) (hl : l.length = m) (hm : m ≤ 12) (hu : Lu' l) (sa : ∀ x ∈ l, (payE x).length ≤ 300) (fa : fewT l = true) (b : List Int) (nb : Nat) (hbl : b.length = nb) (hnb : nb ≤ 3000) (hub : U8 b) (A A' : Option Addr) (c c' : Nat) (hc' : nb ≤ c') (w : World) (hr : Re w A l) (hr' : Rb w A' b) :
    Calls Try.prog 8 #[.slice A m c, .slice A' nb c'] w (RetB w true) := by
  have HFA := Aside0.mk (few_c l m hl (by omega) A c w hr)
  have hg := getC_good hub
  have HGE := Aside0.mk (fun V (hV : Below w.heap.size w V) => get_c V A' c' b (Kd.C_below hr' hV) (by omega) (by omega) hub)
  have HRG := Aside0.mk (fun V (hV : Below w.heap.size w V) => rget_c V A' c' b (Kd.C_below hr' hV) (by omega) (by omega) hub)
  have HPU := Aside0.mk (fun V (hV : Below w.heap.size w V) => put_c l m hl (by omega) hu (fun y hy => Nat.le_trans (sa y hy) (by decide)) A c V (Kd.C_below hr hV))
  have HRP := Aside0.mk (fun V (hV : Below w.heap.size w V) => rput_c l m hl (by omega) hu (fun y hy => Nat.le_trans (sa y hy) (by decide)) A c V (Kd.C_below hr hV))
  unfold RetB at HFA ⊢
  unfold RetG at HGE HRG
  unfold Makes at HPU HRP
  rw [fa] at HFA
  rw [hbl] at HGE HRG
  have hpl := putL_le l hu (fun y hy => Nat.le_trans (sa y hy) (by decide))
  have HPL := Aside0.mk (show (putC l).length ≤ 100000 from by unfold putC; rw [List.length_append, headT_len]; omega)
  obtain ⟨⟨gl, ge⟩, hgc⟩ : ∃ v, getC b = v := ⟨_, rfl⟩
  rw [hgc] at HGE HRG hg
  dsimp only at hg
  obtain ⟨PC, hPC⟩ : ∃ v, putC l = v := ⟨_, rfl⟩
  rw [hPC] at HPU HRP HPL
  have HGG := Aside0.mk hg
  have HL := Aside0.mk (And.intro hl (And.intro hm (And.intro hu sa)))
  have HRE := Aside0.mk hr
  have q0 : decide ((3000 : Int) < (nb : Int)) = false := decide_eq_false (by omega)
  have q1 : decide (3000 < nb) = false := decide_eq_false (by omega)
  have q2 : (ge == ge) = true := by simp
  clear hl hm hu sa fa hbl hnb hub hc' hr hr' hg hgc hPC hpl
  go_enter Try.func8, Try.ntmps8
  go_wp2_with (fail)
  refine (HFA.out).mono ?_
  rintro e w1 ⟨rfl, hb⟩
  have HB1 := Aside0.mk hb
  clear hb
  go_wp2_with (fail)
  refine (HGE.out _ HB1.out).mono ?_
  rintro e w2 ⟨v, rfl, ho, hb⟩
  obtain ⟨A2, c2, rfl, hc2, hr2⟩ := Rg.reads ho
  have HR2 := Aside0.mk (show Re w2 A2 gl from hr2)
  have HB2 := Aside0.mk (below_step HB1.out hb)
  clear hb
  clear ho hc2 hr2
  dsimp only
  go_wp2_with (fail)
  refine (HRG.out _ HB2.out).mono ?_
  rintro e w3 ⟨v, rfl, ho, hb⟩
  obtain ⟨A3, c3, rfl, hc3, hr3⟩ := Rg.reads ho
  have HR3 := Aside0.mk (show Re w3 A3 gl from hr3)
  have HR23 := Aside0.mk (Kd.C_below HR2.out hb)
  have HB3 := Aside0.mk (below_step HB2.out hb)
  clear hb
  clear ho hc3 hr3
  dsimp only
  go_wp2_with (fail)
  refine (HPU.out _ HB3.out).mono ?_
  rintro e w4 ⟨v, rfl, ho, hb⟩
  obtain ⟨A4, c4, rfl, hc4, hr4⟩ := Kd.R_reads ho
  have HR4 := Aside0.mk (And.intro hc4 (show Rb w4 A4 PC from hr4))
  have HT4 := Aside0.mk hb
  have HB4 := Aside0.mk (below_step HB3.out hb)
  clear hb
  clear ho hc4 hr4
  go_wp2_with (fail)
  refine (HRP.out _ HB4.out).mono ?_
  rintro e w5 ⟨v, rfl, ho, hb⟩
  obtain ⟨A5, c5, rfl, hc5, hr5⟩ := Kd.R_reads ho
  have HR5 := Aside0.mk (And.intro hc5 (show Rb w5 A5 PC from hr5))
  have HR45 := Aside0.mk (And.intro HR4.out.1 (Kd.C_below HR4.out.2 hb))
  have HT5 := Aside0.mk (below_step HT4.out hb)
  have HB5 := Aside0.mk (below_step HB4.out hb)
  clear hb
  clear ho hc5 hr5
  go_wp2_with (fail)
  refine (Lo.same_c A4 c4 PC A5 c5 PC _ HR45.out.2 HR45.out.1 HR5.out.2 HR5.out.1 (by have := HPL.out; omega)).mono ?_
  rintro e w6 ⟨rfl, hd⟩
  have hb := Drawn0.below hd
  have HT6 := Aside0.mk (below_step HT5.out hb)
  have HB6 := Aside0.mk (below_step HB5.out hb)
  clear hb
  clear hd
  rw [decide_eq_true rfl]
  go_wp2_with (fail)
  refine (esame_eq gl A2 A3 c2 c3 _ (Kd.C_below HR23.out HT6.out) (Kd.C_below HR3.out HT6.out) (Nat.le_trans HGG.out.2.2 (by decide)) (fun y hy => Nat.le_trans (HGG.out.2.1 y hy) (by decide)) HGG.out.1).mono ?_
  rintro e w7 ⟨rfl, hb⟩
  have HT7 := Aside0.mk (below_step HT6.out hb)
  have HB7 := Aside0.mk (below_step HB6.out hb)
  clear hb
  go_wp2_with (fail)
  refine (num24_c ge _).mono ?_
  rintro e w8 ⟨rfl, rfl⟩
  have HCS := Aside0.mk (fun V (hV : Below w.heap.size w V) (hg : Re V A2 gl) => csame_c l gl A A2 c c2 V (Kd.C_below HRE.out hV) hg (by rw [HL.out.1]; have := HL.out.2.1; omega) (Nat.le_trans HGG.out.2.2 (by decide)) HL.out.2.2.1 HGG.out.1)
  have HES := Aside0.mk (fun V (hV : Below w.heap.size w V) (hg : Re V A2 gl) => esame_c l gl A A2 c c2 V (Kd.C_below HRE.out hV) hg (by rw [HL.out.1]; have := HL.out.2.1; omega) (Nat.le_trans HGG.out.2.2 (by decide)) (fun y hy => Nat.le_trans (HL.out.2.2.2 y hy) (by decide)) HL.out.2.2.1 HGG.out.1)
  have HCL := Aside0.mk (fun V (hV : Below w.heap.size w V) => csame_c l l A A c c V (Kd.C_below HRE.out hV) (Kd.C_below HRE.out hV) (by rw [HL.out.1]; have := HL.out.2.1; omega) (by rw [HL.out.1]; have := HL.out.2.1; omega) HL.out.2.2.1 HL.out.2.2.1)
  unfold RetB at HCS HES HCL
  rw [HL.out.1] at HCS HES HCL
  rw [decide_eq_true rfl] at HCL
  obtain ⟨eb, heb⟩ : ∃ v, decide (l = gl) = v := ⟨_, rfl⟩
  rw [heb] at HCS HES
  clear heb
  have q3 : (eb == eb) = true := by simp
  go_wp2_with (fail)
  refine (HCS.out _ HB7.out (Kd.C_below HR23.out HT7.out)).mono ?_
  rintro e w9 ⟨rfl, hb⟩
  have HT9 := Aside0.mk (below_step HT7.out hb)
  have HB9 := Aside0.mk (below_step HB7.out hb)
  clear hb
  go_wp2_with (fail)
  refine (HES.out _ HB9.out (Kd.C_below HR23.out HT9.out)).mono ?_
  rintro e w10 ⟨rfl, hb⟩
  have HB10 := Aside0.mk (below_step HB9.out hb)
  clear hb
  go_wp2_with (fail)
  refine (HCL.out _ HB10.out).mono ?_
  rintro e w11 ⟨rfl, hb⟩
  have HB11 := Aside0.mk (below_step HB10.out hb)
  clear hb
  go_wp2_with (fail)
  refine (live24_c _).mono ?_
  rintro e w12 ⟨rfl, hb⟩
  have HB12 := Aside0.mk (below_step HB11.out hb)
  clear hb
  go_wp2_with (fail)
  go_ret
  exact ⟨rfl, HB12.out⟩
end Go.Proofs.Ytfpkgdenohcglaa.Chn
/- Entries that came in; the laws' walks, as the rows ask for them. -/
namespace Go.Proofs.Ytfpkgdenohcglaa.Chn
set_option linter.unusedVariables false
open Go.RowKit Go.Proofs.Ytfpkgdenohcglaa.Base Go.Proofs.Ytfpkgdenohcglaa.TlvPlain Go.Proofs.Ytfpkgdenohcglaa.ShaPlain Go.Proofs.Ytfpkgdenohcglaa.Sha Go.Proofs.Ytfpkgdenohcglaa.Com Go.Proofs.Ytfpkgdenohcglaa.Aid Go.Proofs.YtfpkgdenohcglaaW.PrintWords
abbrev okE (x : Ent) : Prop := (Lit.int .i64 x.1).wf = true ∧ (∀ y ∈ x.2.1, (Lit.int .u8 y).wf = true) ∧ (∀ y ∈ x.2.2.1, (Lit.int .u8 y).wf = true) ∧ (Lit.int .u64 x.2.2.2.1).wf = true ∧ (∀ y ∈ x.2.2.2.2.1, (Lit.int .u8 y).wf = true) ∧ True
theorem opens_sum : Open.Opens Try.prog 23 KS (fun xs => ∀ y ∈ xs, (Lit.int .u8 y).wf = true) :=
  Open.opens_array (hs := by decide) Try.underlying23 (by kernel_rfl) (by kernel_rfl) (Open.opens_int Try.underlying5)
theorem opens_ent : Open.Opens Try.prog 27 DEnt okE := by
  have h := (show Open.Opens Try.prog 27 _ _ from Open.opens_struct Try.underlying27 (by kernel_rfl) (fun n => Open.opensF_cons rfl (by kernel_rfl) (Open.opens_int Try.underlying3 n) (Open.opensF_cons rfl (by kernel_rfl) (opens_sum n) (Open.opensF_cons rfl (by kernel_rfl) (opens_sum n)
    (Open.opensF_cons rfl (by kernel_rfl) (Open.opens_int Try.underlying24 n) (Open.opensF_cons rfl (by kernel_rfl) (Open.opens_slice Try.underlying25 (by kernel_rfl) (Open.opens_int Try.underlying5) n) (Open.opensF_one rfl (by kernel_rfl) (Open.opens_bool Try.underlying4 n))))))))
  exact h
theorem opens_ents : Open.Opens Try.prog 22 (Kd.slice 27 DEnt) (fun xs => ∀ x ∈ xs, okE x) := Open.opens_slice Try.underlying22 (by kernel_rfl) opens_ent
theorem eu_of {w : World} {x : Ent} {P C : List Value} {A : Option Addr} {c : Nat} (hC : EntC w x P C A c) (ok : okE x) : Eu x :=
  ⟨hC.fp.len, fun y hy => byte_wf (ok.2.1 y hy), hC.fc.len, fun y hy => byte_wf (ok.2.2.1 y hy), (u64_wf ok.2.2.2.1).1, (u64_wf ok.2.2.2.1).2, fun y hy => byte_wf (ok.2.2.2.2.1 y hy)⟩
theorem lu_of {w : World} {A : Option Addr} {l : List Ent} (hr : Re w A l) (ok : ∀ x ∈ l, okE x) : Lu' l := fun x hx => by
  obtain ⟨i, hi, rfl⟩ := List.mem_iff_getElem.1 hx
  obtain ⟨_, _, _, _, _, _, _, h⟩ := re_at hr i hi
  exact eu_of h (ok _ hx)
end Go.Proofs.Ytfpkgdenohcglaa.Chn
/- The law ChainGets, as the row asks for it. -/
namespace Go.Proofs.Ytfpkgdenohcglaa.Chn
set_option linter.unusedVariables false
open Go.RowKit Go.Proofs.Ytfpkgdenohcglaa.Base Go.Proofs.Ytfpkgdenohcglaa.TlvPlain Go.Proofs.Ytfpkgdenohcglaa.ShaPlain Go.Proofs.Ytfpkgdenohcglaa.Sha Go.Proofs.Ytfpkgdenohcglaa.Com Go.Proofs.Ytfpkgdenohcglaa.Aid Go.Proofs.YtfpkgdenohcglaaW.PrintWords
theorem getsWalk (w : World) (A : Option Addr) (c : Nat) (l : List Ent) (hr : Re w A l) (hc : l.length ≤ c) (ok : ∀ x ∈ l, okE x) (A' : Option Addr) (c' : Nat) (b : List Int) (hr2 : Kd.C (Kd.int .u8) w A' b.length b) (hc2 : b.length ≤ c') (ok2 : ∀ y ∈ b, (Lit.int .u8 y).wf = true) :
    Calls Try.prog 8 #[.slice A l.length c, .slice A' b.length c'] w fun e w' => e = .returned (.bool true) ∧ Below w.heap.size w w' := by
  have l1 : l.length ≤ 9223372036854775807 := hr.2.1
  by_cases fa : fewT l = true
  · by_cases hb : b.length ≤ 3000
    · obtain ⟨ha, sa⟩ := fewT_yes fa
      exact gets_main l _ rfl ha (lu_of hr ok) sa fa b _ rfl hb (fun y hy => byte_wf (ok2 y hy)) A A' c c' hc2 w hr hr2
    · exact gets_no l _ rfl l1 b _ rfl A A' c c' w hr (.inr (by omega))
  · exact gets_no l _ rfl l1 b _ rfl A A' c c' w hr (.inl (by simpa using fa))
end Go.Proofs.Ytfpkgdenohcglaa.Chn
