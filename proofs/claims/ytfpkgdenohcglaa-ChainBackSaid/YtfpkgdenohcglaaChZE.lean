/- Own and printed texts, laid together. -/
import Derived.Test.YtfpkgdenohcglaaChZD
import Derived.Test.YtfpkgdenohcglaaChZB
/- The law ChainBack walked (printed by gen_chnback.py). -/
namespace Go.Proofs.Ytfpkgdenohcglaa.Chn
set_option linter.unusedVariables false
set_option linter.unusedSimpArgs false
open Go.RowKit Go.Proofs.Ytfpkgdenohcglaa.Lo Go.Proofs.Ytfpkgdenohcglaa.RdPlain Go.Proofs.Ytfpkgdenohcglaa.Base Go.Proofs.Ytfpkgdenohcglaa.TlvPlain Go.Proofs.Ytfpkgdenohcglaa.ShaPlain Go.Proofs.Ytfpkgdenohcglaa.Sha Go.Proofs.Ytfpkgdenohcglaa.Com Go.Proofs.Ytfpkgdenohcglaa.Aid Go.Proofs.YtfpkgdenohcglaaW.PrintWords Go.Proofs.YtfpkgdenohcglaaW.PrintLast Go.Proofs.YtfpkgdenohcglaaW.PrintMore
open Tlv (RdO takeO_ okO numO_ textO_ leftO_ newO)
attribute [local irreducible] shaB
/-- salt, payload, out -/
abbrev Fct := Int × List Int × Bool
abbrev DF : Kd Fct := Kd.pair (Kd.int .u64) (Kd.pair (Kd.slice 5 (Kd.int .u8)) Kd.bool)
structure FctAt (W : World) (ad : Addr) (f : Fct) (B : Option Addr) (c : Nat) : Prop where
  s : W.cell? ad = some (.int .u64 f.1)
  p : W.cell? ⟨ad.block, ad.off + 1, none⟩ = some (.slice B f.2.1.length c)
  o : W.cell? ⟨ad.block, ad.off + 2, none⟩ = some (.bool f.2.2)
  hc : f.2.1.length ≤ c
  r : Rb W B f.2.1
theorem FctAt.below {W W' : World} {ad : Addr} {f : Fct} {B : Option Addr} {c : Nat} (h : FctAt W ad f B c) (hb : Below W.heap.size W W') : FctAt W' ad f B c := ⟨cell_below hb h.s, cell_below hb h.p, cell_below hb h.o, h.hc, Kd.C_below h.r hb⟩
theorem fct_at {w : World} {A : Option Addr} {l : List Fct} (h : Kd.C DF w A l.length l) (i : Nat) (hi : i < l.length) : ∃ ad B c, A = some ad ∧ FctAt w (ad.add (i * 3)) l[i] B c := by
  obtain ⟨ad, hA, hc⟩ := h.2.2 (by omega)
  obtain ⟨cs, hl, hK, hat⟩ := hc i l[i] (List.getElem?_eq_getElem hi)
  obtain ⟨c0, cr, e0, h0, c1, c2, e1, ⟨B, c, h1, h2, h3⟩, h4⟩ := hK
  have h0' : c0 = [Value.int .u64 l[i].1] := h0
  have h4' : c2 = [Value.bool l[i].2.2] := h4
  subst h0'
  subst h4'
  subst h1
  subst e1
  subst e0
  have g : ∀ j v, ([Value.int .u64 l[i].1] ++ ([Value.slice B l[i].2.1.length c] ++ [Value.bool l[i].2.2]))[j]? = some v → w.cell? ((ad.add (i * 3)).add j) = some v := fun j v hj => by rw [addr_add_add]; exact hat j v hj
  exact ⟨ad, B, c, hA, g 0 _ rfl, g 1 _ rfl, g 2 _ rfl, h2, h3⟩
theorem putC_u8 {l : List Ent} (hu : Lu' l) (hp : ∀ x ∈ l, (payE x).length ≤ 1000) : U8 (putC l) := by
  refine U8.append (fun y hy => ?_) (headT_u8 l)
  obtain ⟨x, hx, h⟩ := List.mem_flatMap.1 hy
  exact putE_u8 (hu x hx) (Nat.le_trans (hp x hx) (by decide)) y h
structure FctOk (f : Fct) : Prop where
  s0 : 0 ≤ f.1
  s1 : f.1 ≤ 18446744073709551615
  u : U8 f.2.1
theorem back_big (l : List Fct) (m : Nat) (hl : l.length = m) (hm : 20 < m) (hm2 : m ≤ 9223372036854775807) (A : Option Addr) (c : Nat) (w : World) : Calls Try.prog 5 #[.slice A m c] w (RetB w true) := by
  unfold RetB
  have q1 : decide ((20 : Int) < (m : Int)) = true := decide_eq_true (by omega)
  have q2 : decide (20 < m) = true := decide_eq_true hm
  clear hl hm hm2
  go_enter Try.func5, Try.ntmps5
  go_wp2_with (fail)
  refine (live24_c _).mono ?_
  rintro e w7 ⟨rfl, hb⟩
  have HB7 := Aside0.mk hb
  clear hb
  go_wp2_with (fail)
  go_ret
  exact ⟨rfl, HB7.out⟩
set_option maxHeartbeats 8000000 in
set_option maxRecDepth 100000 in
theorem back_walk (l : List Fct) (m : Nat) (hl : l.length = m) (hm : m ≤ 20) (hf : ∀ f ∈ l, FctOk f) (A : Option Addr) (c : Nat) (w : World) (hr : Kd.C DF w A m l) : Calls Try.prog 5 #[.slice A m c] w (RetB w true) := by
  unfold RetB
  have HF := Aside0.mk (And.intro hl hf)
  have HM := Aside0.mk hm
  have HRE := Aside0.mk hr
  have HB0 := Aside0.mk (Below.refl w.heap.size w)
  have q1 : (m : Int) ≤ 20 := by omega
  clear hl hm hf hr
  go_enter Try.func5, Try.ntmps5
  go_wp2_with (fail)
  go_loopw [3, 4] (fun v i wx => ∃ (k : Nat) (cl : List Ent) (AL : Option Addr) (cL : Nat), k ≤ m ∧ v = .slice AL k cL ∧ i = .int .i64 k ∧ Aside0 (Ad k cl ∧ k ≤ cL ∧ Re wx AL cl) ∧ Below w.heap.size w wx) (fun _ i _ => m - (intOf i).toNat)
  case atStart => exact ⟨0, [], none, 0, Nat.zero_le _, rfl, rfl, ⟨Ad.nil, Nat.le_refl _, Kd.C_nil _ _⟩, HB0.out⟩
  case round =>
    clear HB0
    obtain ⟨k, cl, AL, cL, hk, rfl, rfl, HI, hb⟩ := hrel
    have HB := Aside0.mk hb
    clear hb
    obtain ⟨W, hwy⟩ : ∃ wy, wy = wr := ⟨_, rfl⟩
    subst hwy
    by_cases hlt : k < m
    · have hkl : k < l.length := by rw [HF.out.1]; exact hlt
      obtain ⟨ad, B, cb, rfl, hat⟩ := fct_at (by rw [HF.out.1]; exact HRE.out) k hkl
      have hok := HF.out.2 _ (List.getElem_mem hkl)
      obtain ⟨f, hf⟩ : ∃ f, l[k] = f := ⟨_, rfl⟩
      rw [hf] at hat hok
      have HOK := Aside0.mk hok
      have HAT := Aside0.mk (hat.below HB.out)
      have HK := Aside0.mk hlt
      have p0 : (0 : Int) ≤ (k : Int) := by omega
      have p1 : (k : Int) < (m : Int) := by omega
      have d1 : decide ((k : Int) < (m : Int)) = true := decide_eq_true (by omega)
      have d2 : decide (k < m) = true := decide_eq_true hlt
      clear hat hok hf hlt hk hkl
      have hp := HAT.out.p
      by_cases h100 : 100 < f.2.1.length
      · have r1 : decide ((100 : Int) < (f.2.1.length : Int)) = true := decide_eq_true (by omega)
        have r2 : decide (100 < f.2.1.length) = true := decide_eq_true h100
        clear h100
        go_wp2_with (fail)
        refine (live24_c _).mono ?_
        rintro e w7 ⟨rfl, hb⟩
        have HB7 := Aside0.mk (below_step HB.out hb)
        clear hb
        go_wp2_with (fail)
        go_ret
        exact ⟨rfl, HB7.out⟩
      · have r1 : decide ((100 : Int) < (f.2.1.length : Int)) = false := decide_eq_false (by omega)
        have r2 : decide (100 < f.2.1.length) = false := decide_eq_false h100
        have HAD := Aside0.mk (HI.out.1.add HOK.out.s0 HOK.out.s1 HOK.out.u (by omega : f.2.1.length ≤ 100))
        have HADD := Aside0.mk (fun V (hV : Below W.heap.size W V) => add_c cl k HI.out.1.len (by have := HK.out; have := HM.out; omega) HI.out.1.u AL cL HI.out.2.1 f.1 HOK.out.s0 HOK.out.s1 f.2.1 HOK.out.u (by omega) B cb HAT.out.hc V (Kd.C_below HI.out.2.2 hV) (Kd.C_below HAT.out.r hV))
        unfold RetE at HADD
        clear h100
        go_upto_region 9 with (fail)
        clear hp r1 r2
        have HALL := Aside0.mk (fun V (hV : Below W.heap.size W V) => show V.cell? (ad.add (k * 3)) = some (.int .u64 f.1) ∧ V.cell? ⟨(ad.add (k * 3)).block, (ad.add (k * 3)).off + 1, none⟩ = some (.slice B f.2.1.length cb) from ⟨(HAT.out.below hV).s, (HAT.out.below hV).p⟩)
        refine wp_region_held_drew (S := fun V => V.cell? (ad.add (k * 3)) = some (.int .u64 f.1) ∧ V.cell? ⟨(ad.add (k * 3)).block, (ad.add (k * 3)).off + 1, none⟩ = some (.slice B f.2.1.length cb)) (by kernel_rfl) (HALL.out _ (below_drew1 (Below.refl _ _))) (fun hHeld => ?_)
        (refine wpAnyH_take (i := 0) (v := ?_) rfl (by kernel_rfl) (by kernel_rfl) (by kernel_rfl) (fun _ _ _ h => h) (Or.inl ⟨by rfl, ?_⟩) (by assumption) ?_; (case' refine_2 => (intro w hSw; go_simp; try with_reducible rfl)); (try simp only [Act.put, List.getElem_toArray, List.getElem_cons_zero, List.getElem_cons_succ, List.setIfInBounds_toArray, List.set_cons_zero, List.set_cons_succ]))
        (refine wpAnyH_take (i := 1) (v := ?_) rfl (by kernel_rfl) (by kernel_rfl) (by kernel_rfl) (fun _ _ _ h => h) (Or.inl ⟨by rfl, ?_⟩) (by assumption) ?_; (case' refine_2 => (intro w hSw; go_simp; try with_reducible rfl)); (try simp only [Act.put, List.getElem_toArray, List.getElem_cons_zero, List.getElem_cons_succ, List.setIfInBounds_toArray, List.set_cons_zero, List.set_cons_succ]))
        (refine wpAnyH_take (i := 2) (v := ?_) rfl (by kernel_rfl) (by kernel_rfl) (by kernel_rfl) (fun _ _ _ h => h) (Or.inl ⟨by rfl, ?_⟩) (by assumption) ?_; (case' refine_2 => (intro w hSw; go_simp; try with_reducible rfl)); (try simp only [Act.put, List.getElem_toArray, List.getElem_cons_zero, List.getElem_cons_succ, List.setIfInBounds_toArray, List.set_cons_zero, List.set_cons_succ]))
        (refine wpAnyH_take (i := 3) (v := ?_) rfl (by kernel_rfl) (by kernel_rfl) (by kernel_rfl) (fun _ _ _ h => h) (Or.inl ⟨by rfl, ?_⟩) (by assumption) ?_; (case' refine_2 => (intro w hSw; go_simp; try with_reducible rfl)); (try simp only [Act.put, List.getElem_toArray, List.getElem_cons_zero, List.getElem_cons_succ, List.setIfInBounds_toArray, List.set_cons_zero, List.set_cons_succ]))
        (refine wpAnyH_take (i := 4) (v := ?_) rfl (by kernel_rfl) (by kernel_rfl) (by kernel_rfl) (fun _ _ _ h => h) (Or.inl ⟨by rfl, ?_⟩) (by assumption) ?_; (case' refine_2 => (intro w hSw; go_simp; try with_reducible rfl)); (try simp only [Act.put, List.getElem_toArray, List.getElem_cons_zero, List.getElem_cons_succ, List.setIfInBounds_toArray, List.set_cons_zero, List.set_cons_succ]))
        (refine wpAnyH_take (i := 5) (v := ?_) rfl (by kernel_rfl) (by kernel_rfl) (by kernel_rfl) (fun _ _ _ h => h) (Or.inl ⟨by rfl, ?_⟩) (by assumption) ?_; (case' refine_2 => (intro w hSw; go_simp; try with_reducible rfl)); (try simp only [Act.put, List.getElem_toArray, List.getElem_cons_zero, List.getElem_cons_succ, List.setIfInBounds_toArray, List.set_cons_zero, List.set_cons_succ]))
        (refine wpAnyH_take (i := 6) (v := ?_) rfl (by kernel_rfl) (by kernel_rfl) (by kernel_rfl) (fun _ _ _ h => h) (Or.inl ⟨by rfl, ?_⟩) (by assumption) ?_; (case' refine_2 => (intro w hSw; go_simp; try with_reducible rfl)); (try simp only [Act.put, List.getElem_toArray, List.getElem_cons_zero, List.getElem_cons_succ, List.setIfInBounds_toArray, List.set_cons_zero, List.set_cons_succ]))
        (refine wpAnyH_take (i := 7) (v := ?_) rfl (by kernel_rfl) (by kernel_rfl) (by kernel_rfl) (fun _ _ _ h => h) (Or.inl ⟨by rfl, ?_⟩) (by assumption) ?_; (case' refine_2 => (intro w hSw; go_simp; try with_reducible rfl)); (try simp only [Act.put, List.getElem_toArray, List.getElem_cons_zero, List.getElem_cons_succ, List.setIfInBounds_toArray, List.set_cons_zero, List.set_cons_succ]))
        (refine wpAnyH_take (i := 8) (v := ?_) rfl (by kernel_rfl) (by kernel_rfl) (by kernel_rfl) (fun _ _ _ h => h) (Or.inl ⟨by rfl, ?_⟩) (by assumption) ?_; (case' refine_2 => (intro w hSw; go_simp; try with_reducible rfl)); (try simp only [Act.put, List.getElem_toArray, List.getElem_cons_zero, List.getElem_cons_succ, List.setIfInBounds_toArray, List.set_cons_zero, List.set_cons_succ]))
        (refine wpAnyH_take (i := 9) (v := ?_) rfl (by kernel_rfl) (by kernel_rfl) (by kernel_rfl) (fun _ _ _ h => h) (Or.inl ⟨by rfl, ?_⟩) (by assumption) ?_; (case' refine_2 => (intro w hSw; go_simp; try with_reducible rfl)); (try simp only [Act.put, List.getElem_toArray, List.getElem_cons_zero, List.getElem_cons_succ, List.setIfInBounds_toArray, List.set_cons_zero, List.set_cons_succ]))
        (refine wpAnyH_take (i := 10) (v := ?_) rfl (by kernel_rfl) (by kernel_rfl) (by kernel_rfl) (fun _ _ _ h => h) (Or.inl ⟨by rfl, ?_⟩) (by assumption) ?_; (case' refine_2 => (intro w hSw; go_simp; try with_reducible rfl)); (try simp only [Act.put, List.getElem_toArray, List.getElem_cons_zero, List.getElem_cons_succ, List.setIfInBounds_toArray, List.set_cons_zero, List.set_cons_succ]))
        (refine wpAnyH_ready (rs := [11]) (by kernel_rfl) (by simp) (AllReadyH.cons rfl (fun K hK => ?_) AllReadyH.nil); go_simp)
        refine (HADD.out _ (below_drew1 (Below.refl _ _))).mono ?_
        rintro e w2 ⟨v, rfl, ho, hb⟩
        obtain ⟨A2, c2, rfl, hc2, hr2⟩ := ho.reads
        have HR2 := Aside0.mk (And.intro HAD.out (And.intro hc2 hr2))
        have HB2 := Aside0.mk (below_drew_of hb)
        rw [HAD.out.len] at HR2
        rw [HAD.out.len]
        clear ho hb hc2 hr2
        (refine Shut.out hK _ _ (HALL.out _ HB2.out) (fun hHeld => ?_); clear hK K; (try simp only [Act.put, List.getElem_toArray, List.getElem_cons_zero, List.getElem_cons_succ, List.setIfInBounds_toArray, List.set_cons_zero, List.set_cons_succ]))
        (refine wpAnyH_take (i := 12) (v := ?_) rfl (by kernel_rfl) (by kernel_rfl) (by kernel_rfl) (fun _ _ _ h => h) (Or.inl ⟨by rfl, ?_⟩) (by assumption) ?_; (case' refine_2 => (intro w hSw; go_simp; try with_reducible rfl)); (try simp only [Act.put, List.getElem_toArray, List.getElem_cons_zero, List.getElem_cons_succ, List.setIfInBounds_toArray, List.set_cons_zero, List.set_cons_succ]))
        refine wpAnyH_done (by kernel_rfl) ?_ _
        go_wp2_with (fail)
        go_roundw
        case rel => exact ⟨k + 1, _, A2, c2, by have := HK.out; omega, by first | rfl | (simp; done), by go_num, HR2, below_step HB.out HB2.out⟩
        case measure => have := HK.out; simp [intOf]; omega
    · have hkm : m = k := by omega
      subst hkm
      obtain ⟨D, hD⟩ := sumC (headT cl) (headT_len _)
      have HHD := Aside0.mk (head_c cl m HI.out.1.len (by omega) HI.out.1.u AL cL W HI.out.2.2)
      unfold Ret at HHD
      rw [hD.v] at HHD
      have HD := Aside0.mk hD
      have d1 : decide ((m : Int) < (m : Int)) = false := by simp
      have d2 : decide (m < m) = false := by simp
      have HDI := Aside0.mk hD.blk
      have hu24 := Try.underlying23
      clear hD hlt hk
      go_wp2_with (fail)
      refine HHD.out.mono ?_
      rintro e w3 ⟨rfl, hb⟩
      have HB3 := Aside0.mk (below_step HB.out hb)
      have HR3 := Aside0.mk (Kd.C_below HI.out.2.2 hb)
      clear hb
      have HY := Aside0.mk (show (w3.alloc (.cells Z32 23)).heap[w3.heap.size]? = some (.cells Z32 23 (0, 0)) from blk_new _ _)
      have HG4 := Aside0.mk (atC_blk (setRow_heap (w3.alloc (.cells Z32 23)) w3.heap.size Z32 D.toArray _ _ HY.out))
      have HB34 := Aside0.mk (show Below w3.heap.size w3 ((w3.alloc (.cells Z32 23)).setRow w3.heap.size D.toArray) from below_setRow (below_alloc (Below.refl _ _) _) (Nat.le_refl _) _)
      go_upto_region 11 with ((with_reducible refine gate_store (t := 23) (p := 5) (v := .tmp 44) rfl ?_); refine wpList_store_row rfl 23 (.tmp 5) (.tmp 44) rfl w3.heap.size D.toArray rfl rfl 23 Z32 HY.out HD.out.blkA HD.out.zsA HD.out.oneA ?_)
      obtain ⟨w4, hw4⟩ : ∃ V, (w3.alloc (.cells Z32 23)).setRow w3.heap.size D.toArray = V := ⟨_, rfl⟩
      rw [hw4] at HG4 HB34
      rw [show (w3.alloc (.cells #[.int .u8 0, .int .u8 0, .int .u8 0, .int .u8 0, .int .u8 0, .int .u8 0, .int .u8 0, .int .u8 0, .int .u8 0, .int .u8 0, .int .u8 0, .int .u8 0, .int .u8 0, .int .u8 0, .int .u8 0, .int .u8 0, .int .u8 0, .int .u8 0, .int .u8 0, .int .u8 0, .int .u8 0, .int .u8 0, .int .u8 0, .int .u8 0, .int .u8 0, .int .u8 0, .int .u8 0, .int .u8 0, .int .u8 0, .int .u8 0, .int .u8 0, .int .u8 0] 23)).setRow w3.heap.size D.toArray = w4 from hw4]
      have HB4 := Aside0.mk (below_step HB3.out HB34.out)
      have HR4 := Aside0.mk (Kd.C_below HR3.out HB34.out)
      obtain ⟨h5, hh5⟩ : ∃ g, w3.heap.size = g := ⟨_, rfl⟩
      rw [hh5] at HG4 ⊢
      clear hw4 hh5 HY
      have HBK := Aside0.mk (And.intro HI.out.1.bk (And.intro HI.out.2.1 HR4.out))
      obtain ⟨hd, hhd⟩ : ∃ t, headT cl = t := ⟨_, rfl⟩
      rw [hhd] at HBK HD
      clear hhd HHD HI HB HB3 HR3 HR4 HB34 d1 d2
      go_wp2_with (fail)
      go_loopw [3, 6, 7, 8] (fun v i _ _ wx => ∃ (j : Nat) (cl : List Ent) (AL : Option Addr) (cL : Nat), j ≤ m ∧ v = .slice AL m cL ∧ i = .int .i64 j ∧ Aside0 (Bk m hd j cl ∧ m ≤ cL ∧ Re wx AL cl) ∧ AtC wx ⟨h5, 0, none⟩ D ∧ Below w.heap.size w wx) (fun _ i _ _ _ => m - (intOf i).toNat)
      case atStart => exact ⟨0, cl, AL, cL, Nat.zero_le _, rfl, rfl, HBK, HG4.out, HB4.out⟩
      case round =>
        clear HBK HG4 HB4
        obtain ⟨k, cl, AL, cL, hk, rfl, rfl, HI, hg, hb⟩ := hrel
        have HB := Aside0.mk hb
        have HG := Aside0.mk hg
        clear hb hg
        obtain ⟨W, hwy⟩ : ∃ wy, wy = wr := ⟨_, rfl⟩
        subst hwy
        by_cases hlt : k < m
        · have hkl : k < l.length := by rw [HF.out.1]; exact hlt
          obtain ⟨ad, B, cb, rfl, hat⟩ := fct_at (by rw [HF.out.1]; exact HRE.out) k hkl
          have hok := HF.out.2 _ (List.getElem_mem hkl)
          obtain ⟨f, hf⟩ : ∃ f, l[k] = f := ⟨_, rfl⟩
          rw [hf] at hat hok
          have HOK := Aside0.mk hok
          have HAT := Aside0.mk (hat.below HB.out)
          have HK := Aside0.mk hlt
          have p0 : (0 : Int) ≤ (k : Int) := by omega
          have p1 : (k : Int) < (m : Int) := by omega
          have d1 : decide ((k : Int) < (m : Int)) = true := decide_eq_true (by omega)
          have d2 : decide (k < m) = true := decide_eq_true hlt
          clear hat hok hf hlt hk hkl
          have ho := HAT.out.o
          obtain ⟨out, hout⟩ : ∃ t, f.2.2 = t := ⟨_, rfl⟩
          rw [hout] at ho
          clear hout
          cases out with
          | false =>
            go_wp2_with (fail)
            go_roundw
            case rel => exact ⟨k + 1, cl, AL, cL, by have := HK.out; omega, rfl, by go_num, ⟨HI.out.1.next, HI.out.2.1, HI.out.2.2⟩, HG.out, HB.out⟩
            case measure => have := HK.out; simp [intOf]; omega
          | true =>
            have hkc : k < cl.length := by rw [HI.out.1.len]; exact HK.out
            have HRD := Aside0.mk (redact_in cl m HI.out.1.len (by have := HM.out; omega) k HK.out AL cL HI.out.2.1 W HI.out.2.2)
            have HCT := Aside0.mk (HI.out.1.cut hkc)
            unfold RetR at HRD
            rw [HCT.out.1] at HRD
            obtain ⟨cl2, hcl2⟩ : ∃ t, cl.set k (cutE (cl[k]'hkc)) = t := ⟨_, rfl⟩
            rw [hcl2] at HRD HCT
            clear hcl2 hkc
            go_wp2_with (fail)
            refine HRD.out.mono ?_
            rintro e w2 ⟨v, rfl, hrw, hb⟩
            obtain ⟨A2, c2, rfl, hc2, hr2⟩ := hrw.reads
            have HR2 := Aside0.mk (And.intro HCT.out.2 (And.intro hc2 hr2))
            have HB2 := Aside0.mk (below_step HB.out hb)
            have HG2 := Aside0.mk (HG.out.below hb)
            rw [HCT.out.2.len] at HR2
            rw [show (cl2, (0 : Int)).1.length = m from HCT.out.2.len]
            clear hrw hb hc2 hr2 ho
            go_wp2_with (fail)
            refine (num24_c 0 _).mono ?_
            rintro e w5 ⟨rfl, rfl⟩
            go_wp2_with (fail)
            go_roundw
            case rel => exact ⟨k + 1, cl2, A2, c2, by have := HK.out; omega, rfl, by go_num, HR2, HG2.out, HB2.out⟩
            case measure => have := HK.out; simp [intOf]; omega
        · have hkm : k = m := by omega
          subst hkm
          have d1 : decide ((k : Int) < (k : Int)) = false := by simp
          have d2 : decide (k < k) = false := by simp
          have HVE := Aside0.mk (verify_c cl k HI.out.1.len (by have := HM.out; omega) HI.out.1.u (fun y hy => Nat.le_trans (HI.out.1.p y hy) (by decide)) hd HD.out.len (k : Int) AL cL W HI.out.2.2)
          unfold RetIB at HVE
          rw [HD.out.v, HI.out.1.ver] at HVE
          clear hlt hk
          go_wp2_with ((with_reducible refine gate_dst (N := 68) rfl ?_); refine wpList_load_at rfl 23 (.tmp 5) rfl ⟨h5, 0, none⟩ rfl D _ HG.out Try.underlying23 rfl HDI.out ?_)
          refine HVE.out.mono ?_
          rintro e w2 ⟨rfl, hb⟩
          have HB2 := Aside0.mk (below_step HB.out hb)
          have HG2 := Aside0.mk (HG.out.below hb)
          have HR2 := Aside0.mk (Kd.C_below HI.out.2.2 hb)
          clear hb
          have HPU := Aside0.mk (put_c cl k HI.out.1.len (by have := HM.out; omega) HI.out.1.u (fun y hy => Nat.le_trans (HI.out.1.p y hy) (by decide)) AL cL w2 HR2.out)
          unfold Makes at HPU
          go_wp2_with (fail)
          refine HPU.out.mono ?_
          rintro e w5 ⟨v, rfl, ho, hb⟩
          obtain ⟨A5, c5, rfl, hc5, hr5⟩ := Kd.R_reads ho
          have HB5 := Aside0.mk (below_step HB2.out hb)
          have HG5 := Aside0.mk (HG2.out.below hb)
          have HR5 := Aside0.mk (Kd.C_below HR2.out hb)
          have HPL := putL_le cl HI.out.1.u (fun y hy => Nat.le_trans (HI.out.1.p y hy) (by decide))
          have HGE := Aside0.mk (get_c w5 A5 c5 (putC cl) hr5 hc5 (by
            show (putL cl ++ headT cl).length < 100000000
            rw [List.length_append, headT_len]
            have := HI.out.1.len; have := HM.out; omega) (putC_u8 HI.out.1.u (fun y hy => Nat.le_trans (HI.out.1.p y hy) (by decide))))
          unfold RetG at HGE
          rw [HI.out.1.get (by have := HM.out; omega)] at HGE
          clear ho hb hc5 hr5 HPL
          go_wp2_with (fail)
          refine HGE.out.mono ?_
          rintro e w6 ⟨v, rfl, ho, hb⟩
          obtain ⟨A6, c6, rfl, hc6, hr6⟩ := Rg.reads ho
          have HB6 := Aside0.mk (below_step HB5.out hb)
          have HG6 := Aside0.mk (HG5.out.below hb)
          have HR6 := Aside0.mk (Kd.C_below HR5.out hb)
          have HS6 := Aside0.mk (show Re w6 A6 cl from hr6)
          dsimp only
          rw [HI.out.1.len]
          clear ho hb hc6 hr6
          go_wp2_with (fail)
          have HAV := Aside0.mk (fun V (hV : Below w6.heap.size w6 V) => HG6.out.below hV)
          have HSA := Aside0.mk (fun V (hV : Below w6.heap.size w6 V) => esame_eq cl AL A6 cL c6 V (Kd.C_below HR6.out hV) (Kd.C_below HS6.out hV) (by rw [HI.out.1.len]; have := HM.out; omega) (fun y hy => Nat.le_trans (HI.out.1.p y hy) (by decide)) HI.out.1.u)
          unfold RetB at HSA
          rw [HI.out.1.len] at HSA
          have HHE := Aside0.mk (fun V (hV : Below w6.heap.size w6 V) => head_c cl k HI.out.1.len (by have := HM.out; omega) HI.out.1.u A6 c6 V (Kd.C_below HS6.out hV))
          unfold Ret at HHE
          rw [HI.out.1.hd, HD.out.v] at HHE
          have HEQ := run_eq_sum hd hd HD.out.len HD.out.len
          rw [HD.out.v, decide_eq_true rfl] at HEQ
          have hguard := guard_32
          refine wp_region_held_drew (S := fun V => AtC V ⟨h5, 0, none⟩ D) (by kernel_rfl) (HAV.out _ (below_drew1 (Below.refl _ _))) (fun hHeld => ?_)
          (refine wpAnyH_take (i := 0) (v := ?_) rfl (by kernel_rfl) (by kernel_rfl) (by kernel_rfl) (fun _ _ _ h => h) (Or.inl ⟨by rfl, ?_⟩) (by assumption) ?_; (case' refine_2 => (intro w hSw; go_simp; try with_reducible rfl)); (try simp only [Act.put, List.getElem_toArray, List.getElem_cons_zero, List.getElem_cons_succ, List.setIfInBounds_toArray, List.set_cons_zero, List.set_cons_succ]))
          (refine wpAnyH_take (i := 1) (v := ?_) rfl (by kernel_rfl) (by kernel_rfl) (by kernel_rfl) (fun _ _ _ h => h) (Or.inl ⟨by rfl, ?_⟩) (by assumption) ?_; (case' refine_2 => (intro w hSw; go_simp; try with_reducible rfl)); (try simp only [Act.put, List.getElem_toArray, List.getElem_cons_zero, List.getElem_cons_succ, List.setIfInBounds_toArray, List.set_cons_zero, List.set_cons_succ]))
          (refine wpAnyH_take (i := 2) (v := ?_) rfl (by kernel_rfl) (by kernel_rfl) (by kernel_rfl) (fun _ _ _ h => h) (Or.inl ⟨by rfl, ?_⟩) (by assumption) ?_; (case' refine_2 => (intro w hSw; go_simp; try with_reducible rfl)); (try simp only [Act.put, List.getElem_toArray, List.getElem_cons_zero, List.getElem_cons_succ, List.setIfInBounds_toArray, List.set_cons_zero, List.set_cons_succ]))
          (refine wpAnyH_take (i := 3) (v := ?_) rfl (by kernel_rfl) (by kernel_rfl) (by kernel_rfl) (fun _ _ _ h => h) (Or.inl ⟨by rfl, ?_⟩) (by assumption) ?_; (case' refine_2 => (intro w hSw; go_simp; try with_reducible rfl)); (try simp only [Act.put, List.getElem_toArray, List.getElem_cons_zero, List.getElem_cons_succ, List.setIfInBounds_toArray, List.set_cons_zero, List.set_cons_succ]))
          (refine wpAnyH_take (i := 4) (v := ?_) rfl (by kernel_rfl) (by kernel_rfl) (by kernel_rfl) (fun _ _ _ h => h) (Or.inl ⟨by rfl, ?_⟩) (by assumption) ?_; (case' refine_2 => (intro w hSw; go_simp; try with_reducible rfl)); (try simp only [Act.put, List.getElem_toArray, List.getElem_cons_zero, List.getElem_cons_succ, List.setIfInBounds_toArray, List.set_cons_zero, List.set_cons_succ]))
          (refine wpAnyH_take (i := 5) (v := ?_) rfl (by kernel_rfl) (by kernel_rfl) (by kernel_rfl) (fun _ _ _ h => h) (Or.inl ⟨by rfl, ?_⟩) (by assumption) ?_; (case' refine_2 => (intro w hSw; go_simp; try with_reducible rfl)); (try simp only [Act.put, List.getElem_toArray, List.getElem_cons_zero, List.getElem_cons_succ, List.setIfInBounds_toArray, List.set_cons_zero, List.set_cons_succ]))
          (refine wpAnyH_take (i := 6) (v := ?_) rfl (by kernel_rfl) (by kernel_rfl) (by kernel_rfl) (fun _ _ _ h => h) (Or.inl ⟨by rfl, ?_⟩) (by assumption) ?_; (case' refine_2 => (intro w hSw; go_simp; try with_reducible rfl)); (try simp only [Act.put, List.getElem_toArray, List.getElem_cons_zero, List.getElem_cons_succ, List.setIfInBounds_toArray, List.set_cons_zero, List.set_cons_succ]))
          (refine wpAnyH_take (i := 7) (v := ?_) rfl (by kernel_rfl) (by kernel_rfl) (by kernel_rfl) (fun _ _ _ h => h) (Or.inl ⟨by rfl, ?_⟩) (by assumption) ?_; (case' refine_2 => (intro w hSw; go_simp; try with_reducible rfl)); (try simp only [Act.put, List.getElem_toArray, List.getElem_cons_zero, List.getElem_cons_succ, List.setIfInBounds_toArray, List.set_cons_zero, List.set_cons_succ]))
          (refine wpAnyH_take (i := 8) (v := ?_) rfl (by kernel_rfl) (by kernel_rfl) (by kernel_rfl) (fun _ _ _ h => h) (Or.inl ⟨by rfl, ?_⟩) (by assumption) ?_; (case' refine_2 => (intro w hSw; go_simp; try with_reducible rfl)); (try simp only [Act.put, List.getElem_toArray, List.getElem_cons_zero, List.getElem_cons_succ, List.setIfInBounds_toArray, List.set_cons_zero, List.set_cons_succ]))
          (refine wpAnyH_ready (rs := [9]) (by kernel_rfl) (by simp) (AllReadyH.cons rfl (fun K hK => ?_) AllReadyH.nil); go_simp)
          refine (num24_c 0 _).mono ?_
          rintro e w7 ⟨rfl, rfl⟩
          (refine Shut.out hK _ _ (HAV.out _ (below_drew1 (Below.refl _ _))) (fun hHeld => ?_); clear hK K; (try simp only [Act.put, List.getElem_toArray, List.getElem_cons_zero, List.getElem_cons_succ, List.setIfInBounds_toArray, List.set_cons_zero, List.set_cons_succ]))
          (refine wpAnyH_take (i := 10) (v := ?_) rfl (by kernel_rfl) (by kernel_rfl) (by kernel_rfl) (fun _ _ _ h => h) (Or.inl ⟨by rfl, ?_⟩) (by assumption) ?_; (case' refine_2 => (intro w hSw; go_simp; try with_reducible rfl)); (try simp only [Act.put, List.getElem_toArray, List.getElem_cons_zero, List.getElem_cons_succ, List.setIfInBounds_toArray, List.set_cons_zero, List.set_cons_succ]))
          (refine wpAnyH_take (i := 11) (v := ?_) rfl (by kernel_rfl) (by kernel_rfl) (by kernel_rfl) (fun _ _ _ h => h) (Or.inl ⟨by rfl, ?_⟩) (by assumption) ?_; (case' refine_2 => (intro w hSw; go_simp; try with_reducible rfl)); (try simp only [Act.put, List.getElem_toArray, List.getElem_cons_zero, List.getElem_cons_succ, List.setIfInBounds_toArray, List.set_cons_zero, List.set_cons_succ]))
          (refine wpAnyH_take (i := 12) (v := ?_) rfl (by kernel_rfl) (by kernel_rfl) (by kernel_rfl) (fun _ _ _ h => h) (Or.inl ⟨by rfl, ?_⟩) (by assumption) ?_; (case' refine_2 => (intro w hSw; go_simp; try with_reducible rfl)); (try simp only [Act.put, List.getElem_toArray, List.getElem_cons_zero, List.getElem_cons_succ, List.setIfInBounds_toArray, List.set_cons_zero, List.set_cons_succ]))
          (refine wpAnyH_take (i := 13) (v := ?_) rfl (by kernel_rfl) (by kernel_rfl) (by kernel_rfl) (fun _ _ _ h => h) (Or.inl ⟨by rfl, ?_⟩) (by assumption) ?_; (case' refine_2 => (intro w hSw; go_simp; try with_reducible rfl)); (try simp only [Act.put, List.getElem_toArray, List.getElem_cons_zero, List.getElem_cons_succ, List.setIfInBounds_toArray, List.set_cons_zero, List.set_cons_succ]))
          (refine wpAnyH_take (i := 14) (v := ?_) rfl (by kernel_rfl) (by kernel_rfl) (by kernel_rfl) (fun _ _ _ h => h) (Or.inl ⟨by rfl, ?_⟩) (by assumption) ?_; (case' refine_2 => (intro w hSw; go_simp; try with_reducible rfl)); (try simp only [Act.put, List.getElem_toArray, List.getElem_cons_zero, List.getElem_cons_succ, List.setIfInBounds_toArray, List.set_cons_zero, List.set_cons_succ]))
          (refine wpAnyH_ready (rs := [15]) (by kernel_rfl) (by simp) (AllReadyH.cons rfl (fun K hK => ?_) AllReadyH.nil); go_simp)
          refine (HSA.out _ (below_drew1 (Below.refl _ _))).mono ?_
          rintro e w7 ⟨rfl, hb⟩
          have HB7 := Aside0.mk (below_drew_of hb)
          clear hb
          (refine Shut.out hK _ _ (HAV.out _ HB7.out) (fun hHeld => ?_); clear hK K; (try simp only [Act.put, List.getElem_toArray, List.getElem_cons_zero, List.getElem_cons_succ, List.setIfInBounds_toArray, List.set_cons_zero, List.set_cons_succ]))
          (refine wpAnyH_take (i := 16) (v := ?_) rfl (by kernel_rfl) (by kernel_rfl) (by kernel_rfl) (fun _ _ _ h => h) (Or.inl ⟨by rfl, ?_⟩) (by assumption) ?_; (case' refine_2 => (intro w hSw; go_simp; try with_reducible rfl)); (try simp only [Act.put, List.getElem_toArray, List.getElem_cons_zero, List.getElem_cons_succ, List.setIfInBounds_toArray, List.set_cons_zero, List.set_cons_succ]))
          (refine wpAnyH_take (i := 17) (v := ?_) rfl (by kernel_rfl) (by kernel_rfl) (by kernel_rfl) (fun _ _ _ h => h) (Or.inl ⟨by rfl, ?_⟩) (by assumption) ?_; (case' refine_2 => (intro w hSw; go_simp; try with_reducible rfl)); (try simp only [Act.put, List.getElem_toArray, List.getElem_cons_zero, List.getElem_cons_succ, List.setIfInBounds_toArray, List.set_cons_zero, List.set_cons_succ]))
          (refine wpAnyH_take (i := 18) (v := ?_) rfl (by kernel_rfl) (by kernel_rfl) (by kernel_rfl) (fun _ _ _ h => h) (Or.inl ⟨by rfl, ?_⟩) (by assumption) ?_; (case' refine_2 => (intro w hSw; go_simp; try with_reducible rfl)); (try simp only [Act.put, List.getElem_toArray, List.getElem_cons_zero, List.getElem_cons_succ, List.setIfInBounds_toArray, List.set_cons_zero, List.set_cons_succ]))
          (refine wpAnyH_take (i := 20) rfl (by kernel_rfl) (by kernel_rfl) (by kernel_rfl) (fun _ _ _ h => h) (yieldsIf_load_at (by rfl) _ _ rfl ⟨h5, 0, none⟩ rfl D _ (fun _ h => h) (by assumption) rfl HDI.out) (by assumption) ?_; (try simp only [Act.put, List.getElem_toArray, List.getElem_cons_zero, List.getElem_cons_succ, List.setIfInBounds_toArray, List.set_cons_zero, List.set_cons_succ]))
          (refine wpAnyH_ready (rs := [19]) (by kernel_rfl) (by simp) (AllReadyH.cons rfl (fun K hK => ?_) AllReadyH.nil); go_simp)
          refine (HHE.out _ HB7.out).mono ?_
          rintro e w8 ⟨rfl, hb⟩
          have HB8 := Aside0.mk (below_step HB7.out hb)
          clear hb
          (refine Shut.out hK _ _ (HAV.out _ HB8.out) (fun hHeld => ?_); clear hK K; (try simp only [Act.put, List.getElem_toArray, List.getElem_cons_zero, List.getElem_cons_succ, List.setIfInBounds_toArray, List.set_cons_zero, List.set_cons_succ]))
          (refine wpAnyH_take (i := 21) (v := ?_) rfl (by kernel_rfl) (by kernel_rfl) (by kernel_rfl) (fun _ _ _ h => h) (Or.inl ⟨by rfl, ?_⟩) (by assumption) ?_; (case' refine_2 => (intro w hSw; go_simp; try with_reducible rfl)); (try simp only [Act.put, List.getElem_toArray, List.getElem_cons_zero, List.getElem_cons_succ, List.setIfInBounds_toArray, List.set_cons_zero, List.set_cons_succ]))
          (refine wpAnyH_take (i := 22) (v := ?_) rfl (by kernel_rfl) (by kernel_rfl) (by kernel_rfl) (fun _ _ _ h => h) (Or.inl ⟨by rfl, ?_⟩) (by assumption) ?_; (case' refine_2 => (intro w hSw; go_simp; try with_reducible rfl)); (try simp only [Act.put, List.getElem_toArray, List.getElem_cons_zero, List.getElem_cons_succ, List.setIfInBounds_toArray, List.set_cons_zero, List.set_cons_succ]))
          (refine wpAnyH_take (i := 23) (v := ?_) rfl (by kernel_rfl) (by kernel_rfl) (by kernel_rfl) (fun _ _ _ h => h) (Or.inl ⟨by rfl, ?_⟩) (by assumption) ?_; (case' refine_2 => (intro w hSw; go_simp; try with_reducible rfl)); (try simp only [Act.put, List.getElem_toArray, List.getElem_cons_zero, List.getElem_cons_succ, List.setIfInBounds_toArray, List.set_cons_zero, List.set_cons_succ]))
          (refine wpAnyH_ready (rs := [24]) (by kernel_rfl) (by simp) (AllReadyH.cons rfl (fun K hK => ?_) AllReadyH.nil); go_simp)
          refine (live24_c _).mono ?_
          rintro e w9 ⟨rfl, hb⟩
          have HB9 := Aside0.mk (below_step HB8.out hb)
          clear hb
          (refine Shut.out hK _ _ (HAV.out _ HB9.out) (fun hHeld => ?_); clear hK K; (try simp only [Act.put, List.getElem_toArray, List.getElem_cons_zero, List.getElem_cons_succ, List.setIfInBounds_toArray, List.set_cons_zero, List.set_cons_succ]))
          (refine wpAnyH_take (i := 25) (v := ?_) rfl (by kernel_rfl) (by kernel_rfl) (by kernel_rfl) (fun _ _ _ h => h) (Or.inl ⟨by rfl, ?_⟩) (by assumption) ?_; (case' refine_2 => (intro w hSw; go_simp; try with_reducible rfl)); (try simp only [Act.put, List.getElem_toArray, List.getElem_cons_zero, List.getElem_cons_succ, List.setIfInBounds_toArray, List.set_cons_zero, List.set_cons_succ]))
          (refine wpAnyH_take (i := 26) (v := ?_) rfl (by kernel_rfl) (by kernel_rfl) (by kernel_rfl) (fun _ _ _ h => h) (Or.inl ⟨by rfl, ?_⟩) (by assumption) ?_; (case' refine_2 => (intro w hSw; go_simp; try with_reducible rfl)); (try simp only [Act.put, List.getElem_toArray, List.getElem_cons_zero, List.getElem_cons_succ, List.setIfInBounds_toArray, List.set_cons_zero, List.set_cons_succ]))
          refine wpAnyH_done (by kernel_rfl) ?_ _
          go_wp2_with (fail)
          go_ret
          exact ⟨rfl, below_step HB6.out HB9.out⟩
end Go.Proofs.Ytfpkgdenohcglaa.Chn
/- Entries that came in; the laws' walks, as the rows ask for them. -/
namespace Go.Proofs.Ytfpkgdenohcglaa.Chn
set_option linter.unusedVariables false
open Go.RowKit Go.Proofs.Ytfpkgdenohcglaa.Base Go.Proofs.Ytfpkgdenohcglaa.TlvPlain Go.Proofs.Ytfpkgdenohcglaa.ShaPlain Go.Proofs.Ytfpkgdenohcglaa.Sha Go.Proofs.Ytfpkgdenohcglaa.Com Go.Proofs.Ytfpkgdenohcglaa.Aid Go.Proofs.YtfpkgdenohcglaaW.PrintWords
end Go.Proofs.Ytfpkgdenohcglaa.Chn
/- The law ChainBack, as the row asks for it. -/
namespace Go.Proofs.Ytfpkgdenohcglaa.Chn
set_option linter.unusedVariables false
open Go.RowKit Go.Proofs.Ytfpkgdenohcglaa.Base Go.Proofs.Ytfpkgdenohcglaa.TlvPlain Go.Proofs.Ytfpkgdenohcglaa.ShaPlain Go.Proofs.Ytfpkgdenohcglaa.Sha Go.Proofs.Ytfpkgdenohcglaa.Com Go.Proofs.Ytfpkgdenohcglaa.Aid Go.Proofs.YtfpkgdenohcglaaW.PrintWords
abbrev okF (x : Fct) : Prop := (Lit.int .u64 x.1).wf = true ∧ (∀ y ∈ x.2.1, (Lit.int .u8 y).wf = true) ∧ True
theorem opens_fact : Open.Opens Try.prog 48 DF okF := by
  have h := (show Open.Opens Try.prog 48 _ _ from Open.opens_struct Try.underlying48 (by kernel_rfl) (fun n => Open.opensF_cons rfl (by kernel_rfl) (Open.opens_int Try.underlying24 n) (Open.opensF_cons rfl (by kernel_rfl) (Open.opens_slice Try.underlying25 (by kernel_rfl) (Open.opens_int Try.underlying5) n) (Open.opensF_one rfl (by kernel_rfl) (Open.opens_bool Try.underlying4 n)))))
  exact h
theorem opens_facts : Open.Opens Try.prog 46 (Kd.slice 48 DF) (fun xs => ∀ x ∈ xs, okF x) := Open.opens_slice Try.underlying46 (by kernel_rfl) opens_fact
theorem backWalk (w : World) (A : Option Addr) (c : Nat) (l : List Fct) (hr : Kd.C DF w A l.length l) (hc : l.length ≤ c) (ok : ∀ x ∈ l, okF x) :
    Calls Try.prog 5 #[.slice A l.length c] w fun e w' => e = .returned (.bool true) ∧ Below w.heap.size w w' := by
  by_cases h : l.length ≤ 20
  · exact back_walk l l.length rfl h (fun f hf => ⟨(u64_wf (ok f hf).1).1, (u64_wf (ok f hf).1).2, fun y hy => byte_wf ((ok f hf).2.1 y hy)⟩) A c w hr
  · exact back_big l l.length rfl (by omega) hr.2.1 A c w
end Go.Proofs.Ytfpkgdenohcglaa.Chn
