/- Own and printed texts, laid together. -/
import Derived.Test.YtobljmgoengofaaPlGC
import Derived.Deep.RegionLaw
/- plan.Paged: what it hands back. -/
namespace Go.Proofs.Ytobljmgoengofaa.Paged
open Go.RowKit Go.Proofs.Ytobljmgoengofaa.Base Go.Proofs.Ytobljmgoengofaa.PagePlain Go.Proofs.YtobljmgoengofaaW.PrintWords Go.Proofs.YtobljmgoengofaaW.PrintLast Go.Proofs.YtobljmgoengofaaW.PrintMore

def lenOfV (v : Value) : Nat := match v with | .slice _ n _ => n | _ => 0
/-- What lies between two rounds. -/
def Inv (w : World) (b : List Int) (s0 s3 : Value) (wr : World) : Prop :=
  ∃ (A : Option Addr) (c : Nat) (rest out : List Int), s0 = .slice A rest.length c ∧ rest.length ≤ c ∧ Rb w A rest ∧ Ob wr w.heap.size s3 out ∧ out ++ paged rest = paged b ∧ rest.length ≤ b.length ∧ out.length ≤ 2 * (b.length - rest.length) ∧ Below w.heap.size w wr

theorem page_step {rest : List Int} (h : rest ≠ []) {m : Nat} (hm : m = min rest.length 255) : paged rest = 240 :: (rest.take m ++ paged (rest.drop m)) := by
  rw [paged_cons h]
  by_cases h2 : rest.length ≤ 255
  · rw [List.take_of_length_le h2, List.drop_of_length_le h2, List.take_of_length_le (by omega), List.drop_of_length_le (by omega)]
  · rw [show m = 255 by omega]
theorem take_reads {W : World} {A : Option Addr} {l : List Int} (h : Rb W A l) {m : Nat} (hm : m ≤ l.length) : Kd.C (Kd.int .u8) W A m (l.take m) := by
  have h2 := Rb.take h m hm
  have e : (l.take m).length = m := by rw [List.length_take]; omega
  have h3 : Kd.C (Kd.int .u8) W A (l.take m).length (l.take m) := h2
  rw [e] at h3
  exact h3
theorem rel_done {w W : World} {A1 A8 : Option Addr} {c1 r m : Nat} {b rest out : List Int} {v2 : Value} (hr : r = rest.length) (hm : m = min rest.length 255) (hc : rest.length ≤ c1) (hR : Rb w A1 rest) (he : out ++ paged rest = paged b) (hrl : rest.length ≤ b.length) (hol : out.length ≤ 2 * (b.length - rest.length)) (hst : paged rest = 240 :: (rest.take m ++ paged (rest.drop m)))
    (hA : ∀ (w : World) (k : IntKind) (xs : List Int), r ≤ c1 → ReadsInt w k A1 r xs → ReadsInt w k A8 (r - m) (xs.drop m)) (ho : Ob W w.heap.size v2 (out ++ [240] ++ rest.take m)) (hb : Below w.heap.size w W) : Inv w b (.slice A8 (r - m) (c1 - m)) v2 W := by
  subst hr
  refine ⟨A8, c1 - m, rest.drop m, out ++ [240] ++ rest.take m, by rw [List.length_drop], by rw [List.length_drop]; omega, ?_, ho, ?_, by rw [List.length_drop]; omega, ?_, hb⟩
  · have h1 := Kd.reads_of_C (d := (0 : Int)) hR
    have h2 := Kd.C_of_reads (d := (0 : Int)) (h1 := fun _ => rfl) (hA w .u8 rest hc h1)
    show Kd.C _ w A8 (rest.drop m).length (rest.drop m)
    rw [List.length_drop]
    exact h2
  · rw [← he, hst]
    simp
  · rw [List.length_append, List.length_append, List.length_take, List.length_drop, List.length_singleton]
    by_cases h0 : rest = []
    · subst h0
      rw [paged_nil] at hst
      cases hst
    · have := List.length_pos_iff.2 h0
      omega

set_option maxHeartbeats 2000000 in
set_option maxRecDepth 100000 in
theorem paged_ (A : Option Addr) (c : Nat) (b : List Int) (w : World) (hr : Rb w A b) (hc : b.length ≤ c) (hl : b.length ≤ 100000) :
    Calls Try.prog 17 #[.slice A b.length c] w fun e w' => ∃ v, e = .returned v ∧ Ob w' w.heap.size v (paged b) ∧ Below w.heap.size w w' := by
  have h0 : Inv w b (.slice A b.length c) (.slice none 0 0) w := ⟨A, c, b, [], rfl, hc, hr, Kd.R_nil _ _ _ _ _, rfl, Nat.le_refl _, Nat.zero_le _, Below.refl _ _⟩
  have H0 := Aside0.mk h0
  have HL := Aside0.mk hl
  clear h0 hr hc hl
  go_enter Try.func17, Try.ntmps17
  go_wp2
  go_loopw [0, 3] (fun s0 s3 wr => Inv w b s0 s3 wr) (fun s0 _ _ => lenOfV s0)
  case atStart => exact H0.out
  case round =>
    obtain ⟨A1, c1, rest, out, rfl, hc1, hr1, ho, he, hrl, hol, hb⟩ := hrel
    have HC1 := Aside0.mk hc1
    have HR1 := Aside0.mk hr1
    have HO := Aside0.mk ho
    have HE := Aside0.mk he
    have HRL := Aside0.mk hrl
    have HOL := Aside0.mk hol
    have HB := Aside0.mk hb
    clear hr1 ho he hrl hol hb H0
    by_cases hz : rest = []
    · subst hz
      have e0 : paged [] = [] := paged_nil
      have HE0 := Aside0.mk e0
      clear e0 hc1
      obtain ⟨A3, c3, hv⟩ := Kd.R_slice HO.out
      subst hv
      go_wp2
      go_ret
      refine ⟨_, rfl, ?_, HB.out⟩
      have := HE.out
      rw [HE0.out, List.append_nil] at this
      rw [← this]
      exact HO.out
    · have hp : 0 < rest.length := List.length_pos_iff.2 hz
      have hpc := paged_cons hz
      obtain ⟨r, hrr⟩ : ∃ r, r = rest.length := ⟨_, rfl⟩
      rw [← hrr] at hp ⊢
      have hp1 : (0 : Int) < (r : Int) := by omega
      have hz2 : rest ≠ [] := hz
      clear hpc
      by_cases h255 : r ≤ 255
      · have hm : r = min rest.length 255 := by omega
        have HM := Aside0.mk hm
        have HST := Aside0.mk (page_step hz hm)
        have hM1 : ((r : Nat) : Int) ≤ (c1 : Int) := by omega
        have hM2 : (0 : Int) ≤ ((r : Nat) : Int) := by omega
        have HRR := Aside0.mk hrr
        obtain ⟨i0, hi, hz0, hz1, hz2⟩ := info_parts info_u8
        obtain ⟨A8, hcut, hA8⟩ := print_cut (P := Try.prog) 22 5 .i64 Try.underlying22 hi hz1 A1 r c1 r (by omega)
        have HA8 := Aside0.mk hA8
        try simp only [Nat.cast_ofNat] at hcut
        clear hA8 hi hz0 hz1 hz2 hm hz hrr hc1
        have f1 : (r : Int) ≤ 255 := by omega
        go_wp2
        go_region_law (first
          | (refine Kd.R_append_step (Kd.int .u8) (w0 := w) w.heap.size rfl (.tmp 11) (.tmp 12) 22 5 (.int .u8 0) 1 rfl Try.underlying22 info_u8 rfl (by decide) (by omega) u3 out 240 [.int .u8 240] (fun _ => True) (fun _ => False) rfl rfl rfl (fun _ h => h.elim) (fun _ _ => trivial) (Kd.R_drew HO.out) (below_drew1 HB.out) (below_drew1 HB.out).size (by have := HOL.out; have := HL.out; omega) ?_; intro v1 w1 ho hb hg hat; have HO1 := Aside0.mk ho; have HB1 := Aside0.mk hb; clear ho hb hg hat)
          | (refine Kd.R_append_rows_step (Kd.int .u8) (w0 := w) w.heap.size rfl (.tmp 13) (.tmp 17) 22 5 (.int .u8 0) 1 rfl Try.underlying22 info_u8 rfl (by decide) (by omega) v1 (out ++ [240]) (rest.take r) _ _ _ (fun _ => True) (fun _ => False) rfl rfl HO1.out (take_reads (Kd.C_below HR1.out HB1.out) (by have := HM.out; omega)) (fun _ _ h => h) (fun _ h => h.elim) (fun _ _ => trivial) HB1.out HB1.out.size (by have := HOL.out; have := HL.out; have := HM.out; rw [List.length_append, List.length_singleton]; omega) ?_; intro v2 w2 ho hb hg hat; have HO2 := Aside0.mk ho; have HB2 := Aside0.mk hb; clear ho hb hg hat))
        go_wp2
        go_roundw
        case rel => exact (by have h := rel_done HRR.out HM.out HC1.out HR1.out HE.out HRL.out HOL.out HST.out HA8.out HO2.out HB2.out; first | exact h | (rw [Nat.sub_self] at h; exact h))
        case measure => simp [lenOfV]; omega
      · have hm : 255 = min rest.length 255 := by omega
        have HM := Aside0.mk hm
        have HST := Aside0.mk (page_step hz hm)
        have hM1 : ((255 : Nat) : Int) ≤ (c1 : Int) := by omega
        have hM2 : (0 : Int) ≤ ((255 : Nat) : Int) := by omega
        have HRR := Aside0.mk hrr
        obtain ⟨i0, hi, hz0, hz1, hz2⟩ := info_parts info_u8
        obtain ⟨A8, hcut, hA8⟩ := print_cut (P := Try.prog) 22 5 .i64 Try.underlying22 hi hz1 A1 r c1 255 (by omega)
        have HA8 := Aside0.mk hA8
        try simp only [Nat.cast_ofNat] at hcut
        clear hA8 hi hz0 hz1 hz2 hm hz hrr hc1
        have f1 : (255 : Int) < (r : Int) := by omega
        have f2 : (255 : Int) ≤ (c1 : Int) := hM1
        have hcut2 : ∀ W : World, Sem.run Try.prog (Instr.slice 22 (.slice A1 r c1) (some (.int .i64 255)) none none) W = .ok (.slice A8 (r - 255) (c1 - 255)) W := hcut
        clear hcut
        go_wp2
        go_region_law (first
          | (refine Kd.R_append_step (Kd.int .u8) (w0 := w) w.heap.size rfl (.tmp 11) (.tmp 12) 22 5 (.int .u8 0) 1 rfl Try.underlying22 info_u8 rfl (by decide) (by omega) u3 out 240 [.int .u8 240] (fun _ => True) (fun _ => False) rfl rfl rfl (fun _ h => h.elim) (fun _ _ => trivial) (Kd.R_drew HO.out) (below_drew1 HB.out) (below_drew1 HB.out).size (by have := HOL.out; have := HL.out; omega) ?_; intro v1 w1 ho hb hg hat; have HO1 := Aside0.mk ho; have HB1 := Aside0.mk hb; clear ho hb hg hat)
          | (refine Kd.R_append_rows_step (Kd.int .u8) (w0 := w) w.heap.size rfl (.tmp 13) (.tmp 17) 22 5 (.int .u8 0) 1 rfl Try.underlying22 info_u8 rfl (by decide) (by omega) v1 (out ++ [240]) (rest.take 255) _ _ _ (fun _ => True) (fun _ => False) rfl rfl HO1.out (take_reads (Kd.C_below HR1.out HB1.out) (by have := HM.out; omega)) (fun _ _ h => h) (fun _ h => h.elim) (fun _ _ => trivial) HB1.out HB1.out.size (by have := HOL.out; have := HL.out; have := HM.out; rw [List.length_append, List.length_singleton]; omega) ?_; intro v2 w2 ho hb hg hat; have HO2 := Aside0.mk ho; have HB2 := Aside0.mk hb; clear ho hb hg hat))
        go_wp2
        go_roundw
        case rel => exact (by have h := rel_done HRR.out HM.out HC1.out HR1.out HE.out HRL.out HOL.out HST.out HA8.out HO2.out HB2.out; first | exact h | (rw [Nat.sub_self] at h; exact h))
        case measure => simp [lenOfV]; omega
end Go.Proofs.Ytobljmgoengofaa.Paged
