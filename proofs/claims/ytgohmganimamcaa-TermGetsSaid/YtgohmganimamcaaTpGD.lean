/- Own and printed texts, laid together. -/
import Derived.Test.YtgohmganimamcaaTpGC
import Derived.Test.YtgohmganimamcaaTpGA
import Derived.Test.YtgohmganimamcaaTpGB
import Derived.WalkSpells
/- term.Get walked: the term that bytes begin with. -/
namespace Go.Proofs.Ytgohmganimamcaa.Term
set_option linter.unusedVariables false
set_option linter.unusedSimpArgs false
open Go.RowKit Go.Proofs.Ytgohmganimamcaa.Base Go.Proofs.Ytgohmganimamcaa.TlvPlain Go.Proofs.Ytgohmganimamcaa.Lo Go.Proofs.Ytgohmganimamcaa.RdPlain Go.Proofs.Ytgohmganimamcaa.Aid Go.Proofs.Ytgohmganimamcaa.PZ Go.Proofs.YtgohmganimamcaaW.PrintWords Go.Proofs.YtgohmganimamcaaW.PrintLast Go.Proofs.YtgohmganimamcaaW.PrintMore
open Tlv (RdO takeO_ okO leftO_ newO)
def GetQ (w : World) (b : List Int) (e : Ending) (w' : World) : Prop := ∃ v2 v3, e = .returned (.tuple #[.agg #[.int .i64 (getT b).1.f0, .int .u64 (getT b).1.f1, v2, v3], .int .i64 (getT b).2.1, .int .i64 (getT b).2.2]) ∧ Ob w' w.heap.size v2 (getT b).1.f2 ∧ Kd.R k26 26 w' w.heap.size (fun k => some k ≠ v2.ownBlock) v3 (getT b).1.f3 ∧ Below w.heap.size w w'
theorem get_no {b bs : List Int} (hbs : b.take 400 = bs) (h : readT 8 (some bs) = none) : getT b = (zT, 0, 2) := by unfold getT; rw [hbs, h]
theorem get_bad {b bs : List Int} (hbs : b.take 400 = bs) {x : ST} {r : List Int} (h : readT 8 (some bs) = some (x, r)) (hm : mayT 8 x = false) : getT b = (zT, 0, 2) := by unfold getT; rw [hbs, h]; dsimp only; rw [if_neg (by rw [hm]; decide)]
theorem get_ok {b bs : List Int} (hbs : b.take 400 = bs) {x : ST} {r : List Int} (h : readT 8 (some bs) = some (x, r)) (hm : mayT 8 x = true) : getT b = (x, (bs.length : Int) - r.length, 0) := by unfold getT; rw [hbs, h]; dsimp only; rw [if_pos hm]
theorem below_set4 {w W : World} (h : Below w.heap.size w W) (a b c d : Value) : Below w.heap.size w ((((W.setCell ⟨w.heap.size, 0, none⟩ a).setCell ⟨w.heap.size, 1, none⟩ b).setCell ⟨w.heap.size, 2, none⟩ c).setCell ⟨w.heap.size, 3, none⟩ d) :=
  below_set (below_set (below_set (below_set h (Nat.le_refl _)) (Nat.le_refl _)) (Nat.le_refl _)) (Nat.le_refl _)
theorem r_set4 {α : Type} {d : Kd α} {e : Nat} {W : World} {q base : Nat} {v : Value} {xs : List α} {ok : Nat → Prop} (h : Kd.R d e W base ok v xs) (hb : q < base) (a b c f : Value) : Kd.R d e ((((W.setCell ⟨q, 0, none⟩ a).setCell ⟨q, 1, none⟩ b).setCell ⟨q, 2, none⟩ c).setCell ⟨q, 3, none⟩ f) q ok v xs :=
  Kd.R_mono (Kd.R_lower (Kd.R_keep (Kd.R_bound h) (((((KeepBut.refl W q none).set_ 0 a).set_ 1 b).set_ 2 c).set_ 3 f) (fun k hk => by have := hk.2.1; omega)) (by omega)) (fun _ h => h.1)
set_option maxHeartbeats 4000000 in
set_option maxRecDepth 100000 in
theorem get_lo (w : World) (A : Option Addr) (c : Nat) (b : List Int) (hr : Rb w A b) (hc : b.length ≤ c) (hl : b.length < 140737488355328) (hu : U8 b) (h4 : b.length ≤ 400) (bs : List Int) (hbs : b.take 400 = bs) :
    Calls Try.prog 18 #[.slice A b.length c] w (GetQ w b) := by
  have hbb : bs = b := by rw [← hbs]; exact List.take_of_length_le h4
  have hn : bs.length = b.length := by rw [hbb]
  have hrb : Rb w A bs := by rw [hbb]; exact hr
  have hub : U8 bs := by rw [hbb]; exact hu
  have hcb : bs.length ≤ c := by omega
  have hlb : bs.length < 140737488355328 := by omega
  have h41 : (b.length : Int) ≤ 400 := by omega
  have h42 : decide ((b.length : Int) ≤ 400) = true := decide_eq_true h41
  clear hbb
  have HBS := Aside0.mk hbs
  have HR := Aside0.mk hrb
  have HC := Aside0.mk hcb
  have HL := Aside0.mk hlb
  have HU := Aside0.mk hub
  have HN1 := Aside0.mk hn
  have HN := Aside0.mk (show ((b.length : Int) : Int) = (bs.length : Int) by omega)
  have HB := Aside0.mk (below_alloc (Below.refl w.heap.size w) (.cells #[.int .i64 0, .int .u64 0, .slice none 0 0, .slice none 0 0] 26))
  have H0 := Aside0.mk (show Blk (w.alloc (.cells #[.int .i64 0, .int .u64 0, .slice none 0 0, .slice none 0 0] 26)) w.heap.size 26 #[.int .i64 0, .int .u64 0, .slice none 0 0, .slice none 0 0] from blk_new _ _)
  have hu26 := Try.underlying26
  have hu23 := Try.underlying23
  clear hr hl hu hbs hrb hcb hlb hub hn
  go_enter Try.func18, Try.ntmps18
  go_wp2_with (fail)
  have hNew := newO A c bs _ (Kd.C_below HR.out HB.out) HC.out HL.out HU.out
  rw [HN1.out] at hNew
  refine hNew.mono ?_
  rintro e w1 ⟨g, rfl, hs, hb⟩
  have HS := Aside0.mk (RdO.lower hs HB.out.size)
  have HG := Aside0.mk (show w.heap.size + 1 ≤ g by have := hs.blk.1; simpa using this)
  have HB1 := Aside0.mk (below_step HB.out hb)
  have H1 := Aside0.mk (H0.out.below hb)
  clear hs hb HR
  clear hNew
  have hc := read_c 8 (by decide) w w1 g (some bs) HS.out HB1.out
  have hwf := fun x r => read_wf 8 bs x r HU.out
  cases hr : readT 8 (some bs) with
  | none =>
    rw [hr] at hc
    have HCC := Aside0.mk hc
    have HE := Aside0.mk (get_no HBS.out hr)
    clear hc hr hwf
    go_wp2_with (go_at_call 50; refine HCC.out.mono ?_; rintro e w' ⟨y0, y1, B2, m2, e2, B3, m3, e3, s', rfl, hl'⟩; have H0' := Aside0.mk (H1.out.keep hl'.2.2 (by have := HG.out; omega)); have HB' := Aside0.mk hl'.2.1; have z0 := fun o => (H0'.out.alloc o).cell 0; have z1 := fun o => (H0'.out.alloc o).cell 1; have z2 := fun o => (H0'.out.alloc o).cell 2; have z3 := fun o => (H0'.out.alloc o).cell 3; have y0 := fun o => blk_frozen (H0'.out.alloc o) 0; have y1 := fun o => blk_frozen (H0'.out.alloc o) 1; have y2 := fun o => blk_frozen (H0'.out.alloc o) 2; have y3 := fun o => blk_frozen (H0'.out.alloc o) 3; simp only [List.getElem?_toArray, List.getElem?_cons_zero, List.getElem?_cons_succ] at z0 z1 z2 z3; clear hl')
    refine bodyPost_ret (results_ctt rfl _ _ w.heap.size 26 #[.int .i64 0, .int .u64 0, .slice none 0 0, .slice none 0 0] (0, 0) _ rfl (set4 (H0'.out.alloc _) _ _ _ _) Try.underlying26 rfl (by kernel_rfl)) rfl ?_
    unfold GetQ
    rw [HE.out]
    exact ⟨_, _, rfl, Kd.R_nil _ _ _ _ _, Kd.R_nil _ _ _ _ _, below_set4 (below_alloc HB'.out _) _ _ _ _⟩
  | some p =>
    obtain ⟨x, r'⟩ := p
    rw [hr] at hc
    have HCC := Aside0.mk hc
    have HWF := Aside0.mk (hwf x r' hr)
    clear hc hwf
    cases hm : mayT 8 x with
    | false =>
      have HE := Aside0.mk (get_bad HBS.out hr hm)
      have HM := Aside0.mk hm
      clear hr hm
      go_wp2_with (first
        | (go_at_call 50; refine HCC.out.mono ?_; rintro e w' ⟨q2, q3, rfl, ho2, ho3, hl'⟩; obtain ⟨B2, e2, rfl, k2, r2⟩ := Kd.R_reads ho2; obtain ⟨B3, e3, rfl, k3, r3⟩ := Kd.R_reads ho3; have H0' := Aside0.mk ((H1.out.keep hl'.2.2 (by have := HG.out; omega)).alloc (.cells #[.int .i64 x.f0, .int .u64 x.f1, .slice B2 x.f2.length e2, .slice B3 x.f3.length e3] 26)); have HB' := Aside0.mk (below_alloc hl'.2.1 (.cells #[.int .i64 x.f0, .int .u64 x.f1, .slice B2 x.f2.length e2, .slice B3 x.f3.length e3] 26)); have HCK := Aside0.mk (check_c x B2 e2 B3 e3 (w'.alloc (.cells #[.int .i64 x.f0, .int .u64 x.f1, .slice B2 x.f2.length e2, .slice B3 x.f3.length e3] 26)) ⟨⟨k2, Kd.C_alloc r2 _⟩, k3, Kd.C_alloc r3 _⟩); clear hl' ho2 ho3 k2 k3 r2 r3)
        | (go_at_call 16; refine HCK.out.mono ?_; rw [HM.out, if_neg (by decide)]; rintro e w2 ⟨rfl, hb⟩; have H0'' := Aside0.mk (H0'.out.below hb); have HB'' := Aside0.mk (below_step HB'.out hb); have z0 := H0''.out.cell 0; have z1 := H0''.out.cell 1; have z2 := H0''.out.cell 2; have z3 := H0''.out.cell 3; have y0 := blk_frozen H0''.out 0; have y1 := blk_frozen H0''.out 1; have y2 := blk_frozen H0''.out 2; have y3 := blk_frozen H0''.out 3; simp only [List.getElem?_toArray, List.getElem?_cons_zero, List.getElem?_cons_succ] at z0 z1 z2 z3; clear hb))
      refine bodyPost_ret (results_ctt rfl _ _ w.heap.size 26 #[.int .i64 0, .int .u64 0, .slice none 0 0, .slice none 0 0] (0, 0) _ rfl (set4 H0''.out _ _ _ _) Try.underlying26 rfl (by kernel_rfl)) rfl ?_
      unfold GetQ
      rw [HE.out]
      exact ⟨_, _, rfl, Kd.R_nil _ _ _ _ _, Kd.R_nil _ _ _ _ _, below_set4 HB''.out _ _ _ _⟩
    | true =>
      have HE := Aside0.mk (get_ok HBS.out hr hm)
      have HM := Aside0.mk hm
      have HLE := Aside0.mk (show r'.length ≤ bs.length by have h := (read_back 8 bs x r' HU.out hr).1; rw [h, List.length_append]; omega)
      clear hr hm
      go_upto_region 6 with (first
        | (go_at_call 50; refine HCC.out.mono ?_; rintro e w' ⟨q2, q3, rfl, ho2, ho3, hl'⟩; obtain ⟨B2, e2, rfl, k2, r2⟩ := Kd.R_reads ho2; obtain ⟨B3, e3, rfl, k3, r3⟩ := Kd.R_reads ho3; have HT' := Aside0.mk (show Blk (w'.alloc (.cells #[.int .i64 x.f0, .int .u64 x.f1, .slice B2 x.f2.length e2, .slice B3 x.f3.length e3] 26)) w'.heap.size 26 #[.int .i64 x.f0, .int .u64 x.f1, .slice B2 x.f2.length e2, .slice B3 x.f3.length e3] from blk_new _ _); have HO2 := Aside0.mk (Kd.R_alloc ho2 (.cells #[.int .i64 x.f0, .int .u64 x.f1, .slice B2 x.f2.length e2, .slice B3 x.f3.length e3] 26)); have HO3 := Aside0.mk (Kd.R_alloc ho3 (.cells #[.int .i64 x.f0, .int .u64 x.f1, .slice B2 x.f2.length e2, .slice B3 x.f3.length e3] 26)); have HS' := Aside0.mk (hl'.1.below (below_alloc (Below.refl _ _) (.cells #[.int .i64 x.f0, .int .u64 x.f1, .slice B2 x.f2.length e2, .slice B3 x.f3.length e3] 26))); have H0' := Aside0.mk ((H1.out.keep hl'.2.2 (by have := HG.out; omega)).alloc (.cells #[.int .i64 x.f0, .int .u64 x.f1, .slice B2 x.f2.length e2, .slice B3 x.f3.length e3] 26)); have HB' := Aside0.mk (below_alloc hl'.2.1 (.cells #[.int .i64 x.f0, .int .u64 x.f1, .slice B2 x.f2.length e2, .slice B3 x.f3.length e3] 26)); have HCK := Aside0.mk (check_c x B2 e2 B3 e3 (w'.alloc (.cells #[.int .i64 x.f0, .int .u64 x.f1, .slice B2 x.f2.length e2, .slice B3 x.f3.length e3] 26)) ⟨⟨k2, Kd.C_alloc r2 _⟩, k3, Kd.C_alloc r3 _⟩); clear hl' ho2 ho3 k2 k3 r2 r3)
        | (go_at_call 16; refine HCK.out.mono ?_; rw [HM.out, if_pos rfl]; rintro e w2 ⟨rfl, hb⟩; have H0'' := Aside0.mk (H0'.out.below hb); have HT'' := Aside0.mk (HT'.out.below hb); have HO2' := Aside0.mk (Kd.R_below HO2.out hb); have HO3' := Aside0.mk (Kd.R_below HO3.out hb); have HS'' := Aside0.mk (HS'.out.below hb); have HB'' := Aside0.mk (below_step HB'.out hb); clear hb))
      have HOK := Aside0.mk (fun a b c f => (⟨Kd.R_drew (r_set4 (q := w.heap.size) HO2'.out (by have := HB1.out.size; have := HG.out; have := HS.out.blk.2.1; omega) a b c f), Kd.R_drew (r_set4 (q := w.heap.size) HO3'.out (by have := HB1.out.size; have := HG.out; have := HS.out.blk.2.1; omega) a b c f), below_drew1 (below_set4 HB''.out a b c f)⟩ : _ ∧ _ ∧ _))
      obtain ⟨p7, hp7⟩ : ∃ k, w'.heap.size = k := ⟨_, rfl⟩
      rw [hp7] at HT'' ⊢
      have HD := Aside0.mk (HS''.out.below (below_drew1 (Below.refl _ _)))
      have hwn : IntKind.i64.wrap ((b.length : Int) - leftO (some r')) = (bs.length : Int) - r'.length := by have := HN.out; have := HLE.out; have := HL.out; rw [show leftO (some r') = (r'.length : Int) from rfl, IntKind.wrap_i64]; omega
      clear HT' HO2 HO3 HS' H0' HB' HCK HCC H1 H0 HB HS hp7
      have z0 := H0''.out.cell 0; have z1 := H0''.out.cell 1; have z2 := H0''.out.cell 2; have z3 := H0''.out.cell 3; have y0 := blk_frozen H0''.out 0; have y1 := blk_frozen H0''.out 1; have y2 := blk_frozen H0''.out 2; have y3 := blk_frozen H0''.out 3; simp only [List.getElem?_toArray, List.getElem?_cons_zero, List.getElem?_cons_succ] at z0 z1 z2 z3; have Z0 := (H0''.out.below (below_drew1 (Below.refl _ _))).cell 0; have Z1 := (H0''.out.below (below_drew1 (Below.refl _ _))).cell 1; have Z2 := (H0''.out.below (below_drew1 (Below.refl _ _))).cell 2; have Z3 := (H0''.out.below (below_drew1 (Below.refl _ _))).cell 3; have Y0 := blk_frozen (H0''.out.below (below_drew1 (Below.refl _ _))) 0; have Y1 := blk_frozen (H0''.out.below (below_drew1 (Below.refl _ _))) 1; have Y2 := blk_frozen (H0''.out.below (below_drew1 (Below.refl _ _))) 2; have Y3 := blk_frozen (H0''.out.below (below_drew1 (Below.refl _ _))) 3; simp only [List.getElem?_toArray, List.getElem?_cons_zero, List.getElem?_cons_succ] at Z0 Z1 Z2 Z3; have x0 := HT''.out.cell 0; have x1 := HT''.out.cell 1; have x2 := HT''.out.cell 2; have x3 := HT''.out.cell 3; have v0 := blk_frozen HT''.out 0; have v1 := blk_frozen HT''.out 1; have v2 := blk_frozen HT''.out 2; have v3 := blk_frozen HT''.out 3; simp only [List.getElem?_toArray, List.getElem?_cons_zero, List.getElem?_cons_succ] at x0 x1 x2 x3; have X0 := (HT''.out.below (below_drew1 (Below.refl _ _))).cell 0; have X1 := (HT''.out.below (below_drew1 (Below.refl _ _))).cell 1; have X2 := (HT''.out.below (below_drew1 (Below.refl _ _))).cell 2; have X3 := (HT''.out.below (below_drew1 (Below.refl _ _))).cell 3; have V0 := blk_frozen (HT''.out.below (below_drew1 (Below.refl _ _))) 0; have V1 := blk_frozen (HT''.out.below (below_drew1 (Below.refl _ _))) 1; have V2 := blk_frozen (HT''.out.below (below_drew1 (Below.refl _ _))) 2; have V3 := blk_frozen (HT''.out.below (below_drew1 (Below.refl _ _))) 3; simp only [List.getElem?_toArray, List.getElem?_cons_zero, List.getElem?_cons_succ] at X0 X1 X2 X3
      go_region_law (go_simp; go_at_call 51; refine (leftO_ w _ g (some r') HD.out).mono ?_; rintro e w3 ⟨rfl, rfl⟩)
      all_goals
        go_wp2_with (fail)
        refine bodyPost_ret (results_ctt rfl _ _ w.heap.size 26 #[.int .i64 x.f0, .int .u64 x.f1, .slice B2 x.f2.length e2, .slice B3 x.f3.length e3] (0, 0) _ rfl ((set4 H0''.out _ _ _ _).below (below_drew1 (Below.refl _ _))) Try.underlying26 rfl (by kernel_rfl)) rfl ?_
        unfold GetQ
        rw [HE.out, ← hwn]
        exact ⟨_, _, rfl, (HOK.out _ _ _ _).1, (HOK.out _ _ _ _).2.1, (HOK.out _ _ _ _).2.2⟩
set_option maxHeartbeats 4000000 in
set_option maxRecDepth 100000 in
theorem get_hi (w : World) (A : Option Addr) (c : Nat) (b : List Int) (hr : Rb w A b) (hc : b.length ≤ c) (hl : b.length < 140737488355328) (hu : U8 b) (h4 : 400 < b.length) (bs : List Int) (hbs : b.take 400 = bs) :
    Calls Try.prog 18 #[.slice A b.length c] w (GetQ w b) := by
  have hn : bs.length = 400 := by rw [← hbs, List.length_take]; omega
  have hrb : Rb w A bs := by rw [← hbs]; exact Kd.C_take hr (show 400 ≤ b.length by omega)
  have hub : U8 bs := by rw [← hbs]; exact fun x hx => hu x (List.mem_of_mem_take hx)
  have hcb : bs.length ≤ c := by omega
  have hlb : bs.length < 140737488355328 := by omega
  have h41 : ¬ (b.length : Int) ≤ 400 := by omega
  have h42 : decide ((b.length : Int) ≤ 400) = false := decide_eq_false h41
  have h43 : (400 : Int) ≤ (c : Int) := by omega
  have HBS := Aside0.mk hbs
  have HR := Aside0.mk hrb
  have HC := Aside0.mk hcb
  have HL := Aside0.mk hlb
  have HU := Aside0.mk hub
  have HN1 := Aside0.mk hn
  have HN := Aside0.mk (show (400 : Int) = (bs.length : Int) by omega)
  have HB := Aside0.mk (below_alloc (Below.refl w.heap.size w) (.cells #[.int .i64 0, .int .u64 0, .slice none 0 0, .slice none 0 0] 26))
  have H0 := Aside0.mk (show Blk (w.alloc (.cells #[.int .i64 0, .int .u64 0, .slice none 0 0, .slice none 0 0] 26)) w.heap.size 26 #[.int .i64 0, .int .u64 0, .slice none 0 0, .slice none 0 0] from blk_new _ _)
  have hu26 := Try.underlying26
  have hu23 := Try.underlying23
  clear hr hl hu hbs hrb hcb hlb hub hn
  go_enter Try.func18, Try.ntmps18
  go_wp2_with (fail)
  have hNew := newO A c bs _ (Kd.C_below HR.out HB.out) HC.out HL.out HU.out
  rw [HN1.out] at hNew
  refine hNew.mono ?_
  rintro e w1 ⟨g, rfl, hs, hb⟩
  have HS := Aside0.mk (RdO.lower hs HB.out.size)
  have HG := Aside0.mk (show w.heap.size + 1 ≤ g by have := hs.blk.1; simpa using this)
  have HB1 := Aside0.mk (below_step HB.out hb)
  have H1 := Aside0.mk (H0.out.below hb)
  clear hs hb HR
  clear hNew
  have hc := read_c 8 (by decide) w w1 g (some bs) HS.out HB1.out
  have hwf := fun x r => read_wf 8 bs x r HU.out
  cases hr : readT 8 (some bs) with
  | none =>
    rw [hr] at hc
    have HCC := Aside0.mk hc
    have HE := Aside0.mk (get_no HBS.out hr)
    clear hc hr hwf
    go_wp2_with (go_at_call 50; refine HCC.out.mono ?_; rintro e w' ⟨y0, y1, B2, m2, e2, B3, m3, e3, s', rfl, hl'⟩; have H0' := Aside0.mk (H1.out.keep hl'.2.2 (by have := HG.out; omega)); have HB' := Aside0.mk hl'.2.1; have z0 := fun o => (H0'.out.alloc o).cell 0; have z1 := fun o => (H0'.out.alloc o).cell 1; have z2 := fun o => (H0'.out.alloc o).cell 2; have z3 := fun o => (H0'.out.alloc o).cell 3; have y0 := fun o => blk_frozen (H0'.out.alloc o) 0; have y1 := fun o => blk_frozen (H0'.out.alloc o) 1; have y2 := fun o => blk_frozen (H0'.out.alloc o) 2; have y3 := fun o => blk_frozen (H0'.out.alloc o) 3; simp only [List.getElem?_toArray, List.getElem?_cons_zero, List.getElem?_cons_succ] at z0 z1 z2 z3; clear hl')
    refine bodyPost_ret (results_ctt rfl _ _ w.heap.size 26 #[.int .i64 0, .int .u64 0, .slice none 0 0, .slice none 0 0] (0, 0) _ rfl (set4 (H0'.out.alloc _) _ _ _ _) Try.underlying26 rfl (by kernel_rfl)) rfl ?_
    unfold GetQ
    rw [HE.out]
    exact ⟨_, _, rfl, Kd.R_nil _ _ _ _ _, Kd.R_nil _ _ _ _ _, below_set4 (below_alloc HB'.out _) _ _ _ _⟩
  | some p =>
    obtain ⟨x, r'⟩ := p
    rw [hr] at hc
    have HCC := Aside0.mk hc
    have HWF := Aside0.mk (hwf x r' hr)
    clear hc hwf
    cases hm : mayT 8 x with
    | false =>
      have HE := Aside0.mk (get_bad HBS.out hr hm)
      have HM := Aside0.mk hm
      clear hr hm
      go_wp2_with (first
        | (go_at_call 50; refine HCC.out.mono ?_; rintro e w' ⟨q2, q3, rfl, ho2, ho3, hl'⟩; obtain ⟨B2, e2, rfl, k2, r2⟩ := Kd.R_reads ho2; obtain ⟨B3, e3, rfl, k3, r3⟩ := Kd.R_reads ho3; have H0' := Aside0.mk ((H1.out.keep hl'.2.2 (by have := HG.out; omega)).alloc (.cells #[.int .i64 x.f0, .int .u64 x.f1, .slice B2 x.f2.length e2, .slice B3 x.f3.length e3] 26)); have HB' := Aside0.mk (below_alloc hl'.2.1 (.cells #[.int .i64 x.f0, .int .u64 x.f1, .slice B2 x.f2.length e2, .slice B3 x.f3.length e3] 26)); have HCK := Aside0.mk (check_c x B2 e2 B3 e3 (w'.alloc (.cells #[.int .i64 x.f0, .int .u64 x.f1, .slice B2 x.f2.length e2, .slice B3 x.f3.length e3] 26)) ⟨⟨k2, Kd.C_alloc r2 _⟩, k3, Kd.C_alloc r3 _⟩); clear hl' ho2 ho3 k2 k3 r2 r3)
        | (go_at_call 16; refine HCK.out.mono ?_; rw [HM.out, if_neg (by decide)]; rintro e w2 ⟨rfl, hb⟩; have H0'' := Aside0.mk (H0'.out.below hb); have HB'' := Aside0.mk (below_step HB'.out hb); have z0 := H0''.out.cell 0; have z1 := H0''.out.cell 1; have z2 := H0''.out.cell 2; have z3 := H0''.out.cell 3; have y0 := blk_frozen H0''.out 0; have y1 := blk_frozen H0''.out 1; have y2 := blk_frozen H0''.out 2; have y3 := blk_frozen H0''.out 3; simp only [List.getElem?_toArray, List.getElem?_cons_zero, List.getElem?_cons_succ] at z0 z1 z2 z3; clear hb))
      refine bodyPost_ret (results_ctt rfl _ _ w.heap.size 26 #[.int .i64 0, .int .u64 0, .slice none 0 0, .slice none 0 0] (0, 0) _ rfl (set4 H0''.out _ _ _ _) Try.underlying26 rfl (by kernel_rfl)) rfl ?_
      unfold GetQ
      rw [HE.out]
      exact ⟨_, _, rfl, Kd.R_nil _ _ _ _ _, Kd.R_nil _ _ _ _ _, below_set4 HB''.out _ _ _ _⟩
    | true =>
      have HE := Aside0.mk (get_ok HBS.out hr hm)
      have HM := Aside0.mk hm
      have HLE := Aside0.mk (show r'.length ≤ bs.length by have h := (read_back 8 bs x r' HU.out hr).1; rw [h, List.length_append]; omega)
      clear hr hm
      go_upto_region 6 with (first
        | (go_at_call 50; refine HCC.out.mono ?_; rintro e w' ⟨q2, q3, rfl, ho2, ho3, hl'⟩; obtain ⟨B2, e2, rfl, k2, r2⟩ := Kd.R_reads ho2; obtain ⟨B3, e3, rfl, k3, r3⟩ := Kd.R_reads ho3; have HT' := Aside0.mk (show Blk (w'.alloc (.cells #[.int .i64 x.f0, .int .u64 x.f1, .slice B2 x.f2.length e2, .slice B3 x.f3.length e3] 26)) w'.heap.size 26 #[.int .i64 x.f0, .int .u64 x.f1, .slice B2 x.f2.length e2, .slice B3 x.f3.length e3] from blk_new _ _); have HO2 := Aside0.mk (Kd.R_alloc ho2 (.cells #[.int .i64 x.f0, .int .u64 x.f1, .slice B2 x.f2.length e2, .slice B3 x.f3.length e3] 26)); have HO3 := Aside0.mk (Kd.R_alloc ho3 (.cells #[.int .i64 x.f0, .int .u64 x.f1, .slice B2 x.f2.length e2, .slice B3 x.f3.length e3] 26)); have HS' := Aside0.mk (hl'.1.below (below_alloc (Below.refl _ _) (.cells #[.int .i64 x.f0, .int .u64 x.f1, .slice B2 x.f2.length e2, .slice B3 x.f3.length e3] 26))); have H0' := Aside0.mk ((H1.out.keep hl'.2.2 (by have := HG.out; omega)).alloc (.cells #[.int .i64 x.f0, .int .u64 x.f1, .slice B2 x.f2.length e2, .slice B3 x.f3.length e3] 26)); have HB' := Aside0.mk (below_alloc hl'.2.1 (.cells #[.int .i64 x.f0, .int .u64 x.f1, .slice B2 x.f2.length e2, .slice B3 x.f3.length e3] 26)); have HCK := Aside0.mk (check_c x B2 e2 B3 e3 (w'.alloc (.cells #[.int .i64 x.f0, .int .u64 x.f1, .slice B2 x.f2.length e2, .slice B3 x.f3.length e3] 26)) ⟨⟨k2, Kd.C_alloc r2 _⟩, k3, Kd.C_alloc r3 _⟩); clear hl' ho2 ho3 k2 k3 r2 r3)
        | (go_at_call 16; refine HCK.out.mono ?_; rw [HM.out, if_pos rfl]; rintro e w2 ⟨rfl, hb⟩; have H0'' := Aside0.mk (H0'.out.below hb); have HT'' := Aside0.mk (HT'.out.below hb); have HO2' := Aside0.mk (Kd.R_below HO2.out hb); have HO3' := Aside0.mk (Kd.R_below HO3.out hb); have HS'' := Aside0.mk (HS'.out.below hb); have HB'' := Aside0.mk (below_step HB'.out hb); clear hb))
      have HOK := Aside0.mk (fun a b c f => (⟨Kd.R_drew (r_set4 (q := w.heap.size) HO2'.out (by have := HB1.out.size; have := HG.out; have := HS.out.blk.2.1; omega) a b c f), Kd.R_drew (r_set4 (q := w.heap.size) HO3'.out (by have := HB1.out.size; have := HG.out; have := HS.out.blk.2.1; omega) a b c f), below_drew1 (below_set4 HB''.out a b c f)⟩ : _ ∧ _ ∧ _))
      obtain ⟨p7, hp7⟩ : ∃ k, w'.heap.size = k := ⟨_, rfl⟩
      rw [hp7] at HT'' ⊢
      have HD := Aside0.mk (HS''.out.below (below_drew1 (Below.refl _ _)))
      have hwn : IntKind.i64.wrap (400 - leftO (some r')) = (bs.length : Int) - r'.length := by have := HN.out; have := HLE.out; have := HL.out; rw [show leftO (some r') = (r'.length : Int) from rfl, IntKind.wrap_i64]; omega
      clear HT' HO2 HO3 HS' H0' HB' HCK HCC H1 H0 HB HS hp7
      have z0 := H0''.out.cell 0; have z1 := H0''.out.cell 1; have z2 := H0''.out.cell 2; have z3 := H0''.out.cell 3; have y0 := blk_frozen H0''.out 0; have y1 := blk_frozen H0''.out 1; have y2 := blk_frozen H0''.out 2; have y3 := blk_frozen H0''.out 3; simp only [List.getElem?_toArray, List.getElem?_cons_zero, List.getElem?_cons_succ] at z0 z1 z2 z3; have Z0 := (H0''.out.below (below_drew1 (Below.refl _ _))).cell 0; have Z1 := (H0''.out.below (below_drew1 (Below.refl _ _))).cell 1; have Z2 := (H0''.out.below (below_drew1 (Below.refl _ _))).cell 2; have Z3 := (H0''.out.below (below_drew1 (Below.refl _ _))).cell 3; have Y0 := blk_frozen (H0''.out.below (below_drew1 (Below.refl _ _))) 0; have Y1 := blk_frozen (H0''.out.below (below_drew1 (Below.refl _ _))) 1; have Y2 := blk_frozen (H0''.out.below (below_drew1 (Below.refl _ _))) 2; have Y3 := blk_frozen (H0''.out.below (below_drew1 (Below.refl _ _))) 3; simp only [List.getElem?_toArray, List.getElem?_cons_zero, List.getElem?_cons_succ] at Z0 Z1 Z2 Z3; have x0 := HT''.out.cell 0; have x1 := HT''.out.cell 1; have x2 := HT''.out.cell 2; have x3 := HT''.out.cell 3; have v0 := blk_frozen HT''.out 0; have v1 := blk_frozen HT''.out 1; have v2 := blk_frozen HT''.out 2; have v3 := blk_frozen HT''.out 3; simp only [List.getElem?_toArray, List.getElem?_cons_zero, List.getElem?_cons_succ] at x0 x1 x2 x3; have X0 := (HT''.out.below (below_drew1 (Below.refl _ _))).cell 0; have X1 := (HT''.out.below (below_drew1 (Below.refl _ _))).cell 1; have X2 := (HT''.out.below (below_drew1 (Below.refl _ _))).cell 2; have X3 := (HT''.out.below (below_drew1 (Below.refl _ _))).cell 3; have V0 := blk_frozen (HT''.out.below (below_drew1 (Below.refl _ _))) 0; have V1 := blk_frozen (HT''.out.below (below_drew1 (Below.refl _ _))) 1; have V2 := blk_frozen (HT''.out.below (below_drew1 (Below.refl _ _))) 2; have V3 := blk_frozen (HT''.out.below (below_drew1 (Below.refl _ _))) 3; simp only [List.getElem?_toArray, List.getElem?_cons_zero, List.getElem?_cons_succ] at X0 X1 X2 X3
      go_region_law (go_simp; go_at_call 51; refine (leftO_ w _ g (some r') HD.out).mono ?_; rintro e w3 ⟨rfl, rfl⟩)
      all_goals
        go_wp2_with (fail)
        refine bodyPost_ret (results_ctt rfl _ _ w.heap.size 26 #[.int .i64 x.f0, .int .u64 x.f1, .slice B2 x.f2.length e2, .slice B3 x.f3.length e3] (0, 0) _ rfl ((set4 H0''.out _ _ _ _).below (below_drew1 (Below.refl _ _))) Try.underlying26 rfl (by kernel_rfl)) rfl ?_
        unfold GetQ
        rw [HE.out, ← hwn]
        exact ⟨_, _, rfl, (HOK.out _ _ _ _).1, (HOK.out _ _ _ _).2.1, (HOK.out _ _ _ _).2.2⟩
theorem get_c (w : World) (A : Option Addr) (c : Nat) (b : List Int) (hr : Rb w A b) (hc : b.length ≤ c) (hl : b.length < 140737488355328) (hu : U8 b) :
    Calls Try.prog 18 #[.slice A b.length c] w (GetQ w b) := by
  by_cases h : b.length ≤ 400
  · exact get_lo w A c b hr hc hl hu h _ rfl
  · exact get_hi w A c b hr hc hl hu (by omega) _ rfl
end Go.Proofs.Ytgohmganimamcaa.Term
/- term.Put, term.Get, term.Same in the printed functions' form. -/
namespace Go.Proofs.Ytgohmganimamcaa.Term
open Go.RowKit Go.Proofs.Ytgohmganimamcaa.TlvPlain Go.Proofs.Ytgohmganimamcaa.RdPlain Go.Proofs.Ytgohmganimamcaa.PZ
def u8B (l : List Int) : Bool := l.all (fun x => decide (0 ≤ x) && decide (x ≤ 255))
theorem u8B_iff {l : List Int} : u8B l = true ↔ U8 l := by
  unfold u8B U8
  simp only [List.all_eq_true, Bool.and_eq_true, decide_eq_true_eq]
mutual
def wfB : ST → Bool
  | ⟨_, n, d, ks⟩ => (decide (0 ≤ n) && decide (n ≤ 18446744073709551615)) && (u8B d && wfBs ks)
def wfBs : List ST → Bool
  | [] => true
  | k :: ks => wfB k && wfBs ks
end
mutual
theorem wfB_iff : ∀ x : ST, wfB x = true ↔ wfT x
  | ⟨_, n, d, ks⟩ => by
    rw [wfB, wfT]
    simp only [Bool.and_eq_true, decide_eq_true_eq]
    rw [u8B_iff, wfBs_iff ks]
theorem wfBs_iff : ∀ l : List ST, wfBs l = true ↔ wfTs l
  | [] => by rw [wfBs, wfTs]; simp
  | k :: ks => by
    rw [wfBs, wfTs, Bool.and_eq_true, wfB_iff k, wfBs_iff ks]
end
mutual
def eqT : ST → ST → Bool
  | ⟨a, b, c, ks⟩, ⟨a2, b2, c2, ks2⟩ => (decide (a = a2) && decide (b = b2)) && (decide (c = c2) && eqTs ks ks2)
def eqTs : List ST → List ST → Bool
  | [], [] => true
  | x :: xs, y :: ys => eqT x y && eqTs xs ys
  | _, _ => false
end
mutual
theorem eqT_iff : ∀ x y : ST, eqT x y = true ↔ x = y
  | ⟨a, b, c, ks⟩, ⟨a2, b2, c2, ks2⟩ => by
    rw [eqT]
    simp only [Bool.and_eq_true, decide_eq_true_eq, S26.mk.injEq]
    rw [eqTs_iff ks ks2, and_assoc]
theorem eqTs_iff : ∀ l m : List ST, eqTs l m = true ↔ l = m
  | [], [] => by rw [eqTs]; simp
  | [], y :: ys => by rw [eqTs] <;> simp
  | x :: xs, [] => by rw [eqTs] <;> simp
  | x :: xs, y :: ys => by
    rw [eqTs, Bool.and_eq_true, eqT_iff x y, eqTs_iff xs ys]
    simp
end
theorem eqB_eqT (x y : ST) : eqB x y = eqT x y := by
  rw [Bool.eq_iff_iff, eqB_iff, eqT_iff]
end Go.Proofs.Ytgohmganimamcaa.Term
namespace Go.Proofs.Ytgohmganimamcaa.PZ
set_option linter.unusedVariables false
open Go.RowKit Go.Proofs.YtgohmganimamcaaW.PrintWords Go.Proofs.Ytgohmganimamcaa.Term
def term_Put.f (a0_0 : Int) (a0_1 : Int) (l0_2 : List Int) (l0_3 : List (S26)) : Option (List Int × Int) := if wfB ⟨a0_0, a0_1, l0_2, l0_3⟩ = true then some (putV ⟨a0_0, a0_1, l0_2, l0_3⟩) else none
theorem term_Put.calls (a0_0 : Int) (a0_1 : Int) (A0_2 : Option Addr) (c0_2 : Nat) (l0_2 : List Int) (A0_3 : Option Addr) (c0_3 : Nat) (l0_3 : List (S26)) (r1 : List Int) (r2 : Int) (w : World) (hr0_2 : Kd.C (Kd.int .u8) w A0_2 l0_2.length l0_2) (hc0_2 : l0_2.length ≤ c0_2) (hr0_3 : Kd.C k26 w A0_3 l0_3.length l0_3) (hc0_3 : l0_3.length ≤ c0_3) (h : term_Put.f a0_0 a0_1 l0_2 l0_3 = some (r1, r2)) :
    Calls Try.prog 12 #[.agg #[.int .i64 a0_0, .int .u64 a0_1, .slice A0_2 l0_2.length c0_2, .slice A0_3 l0_3.length c0_3]] w fun e w' => ∃ v0_ : Value, e = .returned (.tuple #[v0_, .int .i64 r2]) ∧ Kd.R (Kd.int .u8) 5 w' w.heap.size (fun _ => True) v0_ r1 ∧ Below w.heap.size w w' := by
  unfold term_Put.f at h
  split at h
  · next hc =>
    have e := Option.some.inj h
    have := put_c ⟨a0_0, a0_1, l0_2, l0_3⟩ ((wfB_iff _).1 hc) A0_2 c0_2 A0_3 c0_3 w ⟨⟨hc0_2, hr0_2⟩, hc0_3, hr0_3⟩
    rw [e] at this
    exact this
  · cases h
def term_Get.f (l0 : List Int) : Option (Int × Int × List Int × (List (S26)) × Int × Int) := if (decide (l0.length < 140737488355328) && u8B l0) = true then some ((getT l0).1.f0, (getT l0).1.f1, (getT l0).1.f2, (getT l0).1.f3, (getT l0).2.1, (getT l0).2.2) else none
theorem term_Get.calls (A0 : Option Addr) (c0 : Nat) (l0 : List Int) (r1 : Int) (r2 : Int) (r3 : List Int) (r4 : List (S26)) (r5 : Int) (r6 : Int) (w : World) (hr0 : Kd.C (Kd.int .u8) w A0 l0.length l0) (hc0 : l0.length ≤ c0) (h : term_Get.f l0 = some (r1, r2, r3, r4, r5, r6)) :
    Calls Try.prog 18 #[.slice A0 l0.length c0] w fun e w' => ∃ v2_ v3_ : Value, e = .returned (.tuple #[.agg #[.int .i64 r1, .int .u64 r2, v2_, v3_], .int .i64 r5, .int .i64 r6]) ∧ Kd.R (Kd.int .u8) 5 w' w.heap.size (fun _ => True) v2_ r3 ∧ Kd.R k26 26 w' w.heap.size (fun k_ => some k_ ≠ (v2_ : Value).ownBlock) v3_ r4 ∧ Below w.heap.size w w' := by
  unfold term_Get.f at h
  split at h
  · next hc =>
    simp only [Bool.and_eq_true, decide_eq_true_eq] at hc
    simp only [Option.some.injEq, Prod.mk.injEq] at h
    obtain ⟨rfl, rfl, rfl, rfl, rfl, rfl⟩ := h
    exact get_c w A0 c0 l0 hr0 hc0 hc.1 (u8B_iff.1 hc.2)
  · cases h
def term_Same.f (a0_0 : Int) (a0_1 : Int) (l0_2 : List Int) (l0_3 : List (S26)) (a1_0 : Int) (a1_1 : Int) (l1_2 : List Int) (l1_3 : List (S26)) : Option Bool := if (wfB ⟨a0_0, a0_1, l0_2, l0_3⟩ && wfB ⟨a1_0, a1_1, l1_2, l1_3⟩) = true then some (eqT ⟨a0_0, a0_1, l0_2, l0_3⟩ ⟨a1_0, a1_1, l1_2, l1_3⟩) else none
theorem term_Same.calls (a0_0 : Int) (a0_1 : Int) (A0_2 : Option Addr) (c0_2 : Nat) (l0_2 : List Int) (A0_3 : Option Addr) (c0_3 : Nat) (l0_3 : List (S26)) (a1_0 : Int) (a1_1 : Int) (A1_2 : Option Addr) (c1_2 : Nat) (l1_2 : List Int) (A1_3 : Option Addr) (c1_3 : Nat) (l1_3 : List (S26)) (r : Bool) (w : World) (hr0_2 : Kd.C (Kd.int .u8) w A0_2 l0_2.length l0_2) (hc0_2 : l0_2.length ≤ c0_2) (hr0_3 : Kd.C k26 w A0_3 l0_3.length l0_3) (hc0_3 : l0_3.length ≤ c0_3) (hr1_2 : Kd.C (Kd.int .u8) w A1_2 l1_2.length l1_2) (hc1_2 : l1_2.length ≤ c1_2) (hr1_3 : Kd.C k26 w A1_3 l1_3.length l1_3) (hc1_3 : l1_3.length ≤ c1_3) (h : term_Same.f a0_0 a0_1 l0_2 l0_3 a1_0 a1_1 l1_2 l1_3 = some r) :
    Calls Try.prog 22 #[.agg #[.int .i64 a0_0, .int .u64 a0_1, .slice A0_2 l0_2.length c0_2, .slice A0_3 l0_3.length c0_3], .agg #[.int .i64 a1_0, .int .u64 a1_1, .slice A1_2 l1_2.length c1_2, .slice A1_3 l1_3.length c1_3]] w fun e w' => e = .returned (.bool r) ∧ Below w.heap.size w w' := by
  unfold term_Same.f at h
  split at h
  · next hc =>
    simp only [Bool.and_eq_true] at hc
    obtain rfl := Option.some.inj h
    rw [← eqB_eqT]
    exact same_n _ ⟨a0_0, a0_1, l0_2, l0_3⟩ ⟨a1_0, a1_1, l1_2, l1_3⟩ (Nat.lt_succ_self _) ((wfB_iff _).1 hc.1) ((wfB_iff _).1 hc.2) A0_2 c0_2 A0_3 c0_3 A1_2 c1_2 A1_3 c1_3 w ⟨⟨hc0_2, hr0_2⟩, hc0_3, hr0_3⟩ ⟨⟨hc1_2, hr1_2⟩, hc1_3, hr1_3⟩
  · cases h
end Go.Proofs.Ytgohmganimamcaa.PZ
-- printed for this claim by a program (pall.sh)
-- mended by fixpz.py
namespace Go.Proofs.Ytgohmganimamcaa.PZ
open Go.RowKit Go.Proofs.YtgohmganimamcaaW.PrintWords Go.Proofs.YtgohmganimamcaaW.PrintLast Go.Proofs.YtgohmganimamcaaW.PrintMore
attribute [local go_sem] max2_int min2_int max_two min_two max_three min_three max_four min_four   -- for this text's walks alone
set_option linter.unusedVariables false
set_option linter.unusedSimpArgs false

/-! ### term_Data: function 38 -/
def term_Data.f (l0 : List Int) : Option (Int × Int × List Int × (List (S26))) := (bytes_Clone.f l0).bind fun t102 => (some (3, 0, t102, ([] : List (S26))))
set_option maxHeartbeats 8000000 in
set_option maxRecDepth 100000 in
theorem term_Data.calls (A0 : Option Addr) (c0 : Nat) (l0 : List Int) (r1 : Int) (r2 : Int) (r3 : List Int) (r4 : List (S26)) (w : World) (hr0 : Kd.C (Kd.int .u8) w A0 l0.length l0) (hc0 : l0.length ≤ c0) (h : term_Data.f l0 = some (r1, r2, r3, r4)) :
    Calls Try.prog 38 #[.slice A0 l0.length c0] w fun e w' => ∃ v2_ v3_ : Value, e = .returned (.agg #[.int .i64 r1, .int .u64 r2, v2_, v3_]) ∧ Kd.R (Kd.int .u8) 5 w' w.heap.size (fun _ => True) v2_ r3 ∧ Kd.R k26 26 w' w.heap.size (fun k_ => some k_ ≠ (v2_ : Value).ownBlock) v3_ r4 ∧ Below w.heap.size w w' := by
  have hu26 := Try.underlying26
  have HR0 := Aside0.mk hr0
  have HC0 := Aside0.mk hc0
  clear hr0 hc0
  have HB := Aside0.mk (Below.refl w.heap.size w)
  have H : ((bytes_Clone.f l0).bind fun t102 => (some (3, 0, t102, ([] : List (S26))))) = some (r1, r2, r3, r4) := h
  clear h
  replace H := Option.bind_eq_some_iff.mp H
  obtain ⟨t102, A20, H⟩ := H
  replace H : (some (3, 0, t102, ([] : List (S26)))) = some (r1, r2, r3, r4) := H
  have A2 := Aside0.mk A20
  clear A20
  simp only [Option.some.injEq, Prod.mk.injEq] at H
  obtain ⟨rfl, rfl, rfl, rfl⟩ := H
  go_enter Try.func38, Try.ntmps38
  go_wp2_with (first | ((with_reducible refine gate_dst (N := 2) rfl ?_); refine box_event ?hg (N := 2) ?hd (cs := #[.int .i64 0, .int .u64 0, .slice none 0 0, .slice none 0 0]) (t := 26) ?hr ?_; (case hd => rfl); (case hg => rfl); (case hr => first | (go_simp; done) | (go_simp; rfl)); intro gb101 hg w3 hbox hb; have n0_ := Aside0.mk (below_step (by repeat (first | (with_reducible first | exact HB.out | apply below_alloc | apply pw_below_drewN | apply below_drew1) | exact HB.out)) hb); have n1_ := Aside0.mk (hbox); have n2_ := Aside0.mk ((by rw [hg]; exact (below_size (by repeat (first | (with_reducible first | exact HB.out | apply below_alloc | apply pw_below_drewN | apply below_drew1) | exact HB.out))) : w.heap.size ≤ gb101)); have n3_ := Aside0.mk ((by rw [hg]; exact (below_size (by repeat (first | (with_reducible first | exact HB.out | apply below_alloc | apply pw_below_drewN | apply below_drew1) | exact HB.out))) : w.heap.size ≤ gb101)); clear HB; have HB := n0_; have BK101 := n1_; have GW101 := n2_; have GE101 := n3_; clear n0_ n1_ n2_ n3_; clear hb hbox hg) | ((with_reducible refine gate_callee (f := 63) rfl ?_); refine goesL_ (some 4) rfl rfl Try.func63 (by kernel_rfl) rfl #[.slice A0 l0.length c0] rfl (by (try simp only [List.map_toArray, List.map_cons, List.map_nil]); first | done | rfl | (simp only [List.length_drop, List.length_take]; rfl)) ?_; (with_reducible refine (bytes_Clone.calls _ _ l0 t102 _ ?side1 ?side2 A2.out).mono ?_); (case side1 => repeat (first | exact (Kd.C_below HR0.out HB.out) | (with_reducible refine Kd.C_alloc ?_ _) | (with_reducible refine Kd.C_drewN ?_ _) | (with_reducible refine Kd.C_drew ?_))); (case side2 => exact HC0.out); rintro e w4 ⟨v103, rfl, ho0, hb⟩; refine ⟨_, rfl, ?_⟩; have n0_ := Aside0.mk (Kd.R_lower ho0 (below_size (by repeat (first | (with_reducible first | exact HB.out | apply below_alloc | apply pw_below_drewN | apply below_drew1 | refine below_set ?_ GE101.out) | exact HB.out)))); have n1_ := Aside0.mk (blk_below (g := gb101) (o := .cells #[.int .i64 0, .int .u64 0, .slice none 0 0, .slice none 0 0] 26 (0, 0)) (by (with_reducible repeat (first | refine blk_drewN ?_ _ | refine blk_drew ?_ | refine blk_alloc ?_ _)); exact BK101.out) hb); have n2_ := Aside0.mk (below_step (by repeat (first | (with_reducible first | exact HB.out | apply below_alloc | apply pw_below_drewN | apply below_drew1 | refine below_set ?_ GE101.out) | exact HB.out)) hb); clear BK101; clear HB; have HO104 := n0_; have BK101 := n1_; have HB := n2_; clear n0_ n1_ n2_; (try clear hb); (try clear hb2); (try clear hk); (try clear hi); (try clear ho0); obtain ⟨Ao5, co5, eo5⟩ := Kd.R_slice HO104.out; subst eo5; have hcz6_0 : w4.cell? ⟨gb101, 0, none⟩ = some (.int .i64 0) := (blk_cell BK101.out 0).trans rfl; have hcz6_1 : w4.cell? ⟨gb101, 1, none⟩ = some (.int .u64 0) := (blk_cell BK101.out 1).trans rfl; have hcz6_2 : w4.cell? ⟨gb101, 2, none⟩ = some (.slice none 0 0) := (blk_cell BK101.out 2).trans rfl; have hcz6_3 : w4.cell? ⟨gb101, 3, none⟩ = some (.slice none 0 0) := (blk_cell BK101.out 3).trans rfl; have hfz6_0 := blk_frozen BK101.out 0; have hfz6_1 := blk_frozen BK101.out 1; have hfz6_2 := blk_frozen BK101.out 2; have hfz6_3 := blk_frozen BK101.out 3))
  refine bodyPost_ret (results_cell_row rfl _ _ gb101 26 #[.int .i64 3, .int .u64 0, .slice Ao5 t102.length co5, .slice none 0 0] (0, 0) _ rfl (by (with_reducible repeat (first | refine blk_drewN ?_ _ | refine blk_drew ?_ | refine blk_alloc ?_ _)); refine blk_put (cs := #[.int .i64 3, .int .u64 0, .slice Ao5 t102.length co5, .slice none 0 0]) ?_ 3 _ rfl; (with_reducible repeat (first | refine blk_drewN ?_ _ | refine blk_drew ?_ | refine blk_alloc ?_ _)); refine blk_put (cs := #[.int .i64 3, .int .u64 0, .slice none 0 0, .slice none 0 0]) ?_ 2 _ rfl; (with_reducible repeat (first | refine blk_drewN ?_ _ | refine blk_drew ?_ | refine blk_alloc ?_ _)); refine blk_put (cs := #[.int .i64 3, .int .u64 0, .slice none 0 0, .slice none 0 0]) ?_ 1 _ rfl; (with_reducible repeat (first | refine blk_drewN ?_ _ | refine blk_drew ?_ | refine blk_alloc ?_ _)); refine blk_put (cs := #[.int .i64 0, .int .u64 0, .slice none 0 0, .slice none 0 0]) ?_ 0 _ rfl; (with_reducible repeat (first | refine blk_drewN ?_ _ | refine blk_drew ?_ | refine blk_alloc ?_ _)); exact BK101.out) Try.underlying26 rfl (by kernel_rfl)) rfl ?_
  exact ⟨_, _, by first | rfl | (simp [errW_none, errW_some] <;> rfl) | (simp [*, errW_none, errW_some] <;> rfl), by (with_reducible repeat (first | apply Kd.R_alloc | apply Kd.R_drewN | apply Kd.R_drew)); exact Kd.R_mono (Kd.R_far (p := ⟨gb101, 3, none⟩) (Kd.R_far (p := ⟨gb101, 2, none⟩) (Kd.R_far (p := ⟨gb101, 1, none⟩) (Kd.R_far (p := ⟨gb101, 0, none⟩) (Kd.R_types HO104.out BK101.out (by decide)) (fun _ hk => hk.2) (.int .i64 3)) (fun _ hk => hk.2) (.int .u64 0)) (fun _ hk => hk.2) (.slice Ao5 t102.length co5)) (fun _ hk => hk.2) (.slice none 0 0)) (fun _ hk => trivial), by first | exact Kd.R_nil _ _ _ _ _ | exact Kd.N_nil _ _ _ _ _ | exact Kd.V_nil _ _ _ _ _ | exact Kd.Q_nil _ _ _ _ _ | exact Kd.S_nil _ _ _ _ _, by repeat (first | (with_reducible first | exact HB.out | apply below_alloc | apply pw_below_drewN | apply below_drew1 | refine below_set ?_ GE101.out) | exact HB.out)⟩

end Go.Proofs.Ytgohmganimamcaa.PZ
-- printed for this claim by a program (pall.sh)
-- mended by fixpz.py
namespace Go.Proofs.Ytgohmganimamcaa.PZ
open Go.RowKit Go.Proofs.YtgohmganimamcaaW.PrintWords Go.Proofs.YtgohmganimamcaaW.PrintLast Go.Proofs.YtgohmganimamcaaW.PrintMore
attribute [local go_sem] max2_int min2_int max_two min_two max_three min_three max_four min_four   -- for this text's walks alone
set_option linter.unusedVariables false
set_option linter.unusedSimpArgs false

/-! ### term_Key: function 37 -/
def term_Key.f (a0 : Int) : Option (Int × Int × List Int × (List (S26))) := some (2, a0, ([] : List Int), ([] : List (S26)))
set_option maxHeartbeats 8000000 in
set_option maxRecDepth 100000 in
theorem term_Key.calls (a0 : Int) (r1 : Int) (r2 : Int) (r3 : List Int) (r4 : List (S26)) (w : World) (h : term_Key.f a0 = some (r1, r2, r3, r4)) :
    Calls Try.prog 37 #[.int .u64 a0] w fun e w' => ∃ v2_ v3_ : Value, e = .returned (.agg #[.int .i64 r1, .int .u64 r2, v2_, v3_]) ∧ Kd.R (Kd.int .u8) 5 w' w.heap.size (fun _ => True) v2_ r3 ∧ Kd.R k26 26 w' w.heap.size (fun k_ => some k_ ≠ (v2_ : Value).ownBlock) v3_ r4 ∧ Below w.heap.size w w' := by
  have hu26 := Try.underlying26
  have HB := Aside0.mk (Below.refl w.heap.size w)
  have H : (some (2, a0, ([] : List Int), ([] : List (S26)))) = some (r1, r2, r3, r4) := h
  clear h
  simp only [Option.some.injEq, Prod.mk.injEq] at H
  obtain ⟨rfl, rfl, rfl, rfl⟩ := H
  go_enter Try.func37, Try.ntmps37
  go_wp2_with (first | ((with_reducible refine gate_dst (N := 2) rfl ?_); refine box_event ?hg (N := 2) ?hd (cs := #[.int .i64 0, .int .u64 0, .slice none 0 0, .slice none 0 0]) (t := 26) ?hr ?_; (case hd => rfl); (case hg => rfl); (case hr => first | (go_simp; done) | (go_simp; rfl)); intro gb101 hg w2 hbox hb; have n0_ := Aside0.mk (below_step (by repeat (first | (with_reducible first | exact HB.out | apply below_alloc | apply pw_below_drewN | apply below_drew1) | exact HB.out)) hb); have n1_ := Aside0.mk (hbox); have n2_ := Aside0.mk ((by rw [hg]; exact (below_size (by repeat (first | (with_reducible first | exact HB.out | apply below_alloc | apply pw_below_drewN | apply below_drew1) | exact HB.out))) : w.heap.size ≤ gb101)); have n3_ := Aside0.mk ((by rw [hg]; exact (below_size (by repeat (first | (with_reducible first | exact HB.out | apply below_alloc | apply pw_below_drewN | apply below_drew1) | exact HB.out))) : w.heap.size ≤ gb101)); clear HB; have HB := n0_; have BK101 := n1_; have GW101 := n2_; have GE101 := n3_; clear n0_ n1_ n2_ n3_; clear hb hbox hg; have hcz3_0 : w2.cell? ⟨gb101, 0, none⟩ = some (.int .i64 0) := (blk_cell BK101.out 0).trans rfl; have hcz3_1 : w2.cell? ⟨gb101, 1, none⟩ = some (.int .u64 0) := (blk_cell BK101.out 1).trans rfl; have hcz3_2 : w2.cell? ⟨gb101, 2, none⟩ = some (.slice none 0 0) := (blk_cell BK101.out 2).trans rfl; have hcz3_3 : w2.cell? ⟨gb101, 3, none⟩ = some (.slice none 0 0) := (blk_cell BK101.out 3).trans rfl; have hfz3_0 := blk_frozen BK101.out 0; have hfz3_1 := blk_frozen BK101.out 1; have hfz3_2 := blk_frozen BK101.out 2; have hfz3_3 := blk_frozen BK101.out 3))
  refine bodyPost_ret (results_cell_row rfl _ _ gb101 26 #[.int .i64 2, .int .u64 a0, .slice none 0 0, .slice none 0 0] (0, 0) _ rfl (by (with_reducible repeat (first | refine blk_drewN ?_ _ | refine blk_drew ?_ | refine blk_alloc ?_ _)); refine blk_put (cs := #[.int .i64 2, .int .u64 a0, .slice none 0 0, .slice none 0 0]) ?_ 3 _ rfl; (with_reducible repeat (first | refine blk_drewN ?_ _ | refine blk_drew ?_ | refine blk_alloc ?_ _)); refine blk_put (cs := #[.int .i64 2, .int .u64 a0, .slice none 0 0, .slice none 0 0]) ?_ 2 _ rfl; (with_reducible repeat (first | refine blk_drewN ?_ _ | refine blk_drew ?_ | refine blk_alloc ?_ _)); refine blk_put (cs := #[.int .i64 2, .int .u64 0, .slice none 0 0, .slice none 0 0]) ?_ 1 _ rfl; (with_reducible repeat (first | refine blk_drewN ?_ _ | refine blk_drew ?_ | refine blk_alloc ?_ _)); refine blk_put (cs := #[.int .i64 0, .int .u64 0, .slice none 0 0, .slice none 0 0]) ?_ 0 _ rfl; (with_reducible repeat (first | refine blk_drewN ?_ _ | refine blk_drew ?_ | refine blk_alloc ?_ _)); exact BK101.out) Try.underlying26 rfl (by kernel_rfl)) rfl ?_
  exact ⟨_, _, by first | rfl | (simp [errW_none, errW_some] <;> rfl) | (simp [*, errW_none, errW_some] <;> rfl), by first | exact Kd.R_nil _ _ _ _ _ | exact Kd.N_nil _ _ _ _ _ | exact Kd.V_nil _ _ _ _ _ | exact Kd.Q_nil _ _ _ _ _ | exact Kd.S_nil _ _ _ _ _, by first | exact Kd.R_nil _ _ _ _ _ | exact Kd.N_nil _ _ _ _ _ | exact Kd.V_nil _ _ _ _ _ | exact Kd.Q_nil _ _ _ _ _ | exact Kd.S_nil _ _ _ _ _, by repeat (first | (with_reducible first | exact HB.out | apply below_alloc | apply pw_below_drewN | apply below_drew1 | refine below_set ?_ GE101.out) | exact HB.out)⟩

end Go.Proofs.Ytgohmganimamcaa.PZ
-- printed for this claim by a program (pall.sh)
-- mended by fixpz.py
namespace Go.Proofs.Ytgohmganimamcaa.PZ
open Go.RowKit Go.Proofs.YtgohmganimamcaaW.PrintWords Go.Proofs.YtgohmganimamcaaW.PrintLast Go.Proofs.YtgohmganimamcaaW.PrintMore
attribute [local go_sem] max2_int min2_int max_two min_two max_three min_three max_four min_four   -- for this text's walks alone
set_option linter.unusedVariables false
set_option linter.unusedSimpArgs false

/-! ### term_Enc: function 34 -/
def term_Enc.f (a0 : Int) (a1_0 : Int) (a1_1 : Int) (l1_2 : List Int) (l1_3 : List (S26)) (a2_0 : Int) (a2_1 : Int) (l2_2 : List Int) (l2_3 : List (S26)) : Option (Int × Int × List Int × (List (S26))) := some (5, a0, ([] : List Int), (([(⟨a1_0, a1_1, l1_2, l1_3⟩ : S26), (⟨a2_0, a2_1, l2_2, l2_3⟩ : S26)] : List (S26))))
set_option maxHeartbeats 8000000 in
set_option maxRecDepth 100000 in
theorem term_Enc.calls (a0 : Int) (a1_0 : Int) (a1_1 : Int) (P1_2_ : Nat → Prop) (A1_2 : Option Addr) (c1_2 : Nat) (l1_2 : List Int) (P1_3_ : Nat → Prop) (A1_3 : Option Addr) (c1_3 : Nat) (l1_3 : List (S26)) (a2_0 : Int) (a2_1 : Int) (P2_2_ : Nat → Prop) (A2_2 : Option Addr) (c2_2 : Nat) (l2_2 : List Int) (P2_3_ : Nat → Prop) (A2_3 : Option Addr) (c2_3 : Nat) (l2_3 : List (S26)) (r1 : Int) (r2 : Int) (r3 : List Int) (r4 : List (S26)) (w : World) (hs1_2 : Kd.V (Kd.int .u8) 5 w w.heap.size (fun k_ => P1_2_ k_) (.slice A1_2 l1_2.length c1_2) l1_2) (hs1_3 : Kd.V k26 26 w w.heap.size (fun k_ => P1_3_ k_) (.slice A1_3 l1_3.length c1_3) l1_3) (hs2_2 : Kd.V (Kd.int .u8) 5 w w.heap.size (fun k_ => P2_2_ k_) (.slice A2_2 l2_2.length c2_2) l2_2) (hs2_3 : Kd.V k26 26 w w.heap.size (fun k_ => P2_3_ k_) (.slice A2_3 l2_3.length c2_3) l2_3) (h : term_Enc.f a0 a1_0 a1_1 l1_2 l1_3 a2_0 a2_1 l2_2 l2_3 = some (r1, r2, r3, r4)) :
    Calls Try.prog 34 #[.int .u64 a0, .agg #[.int .i64 a1_0, .int .u64 a1_1, .slice A1_2 l1_2.length c1_2, .slice A1_3 l1_3.length c1_3], .agg #[.int .i64 a2_0, .int .u64 a2_1, .slice A2_2 l2_2.length c2_2, .slice A2_3 l2_3.length c2_3]] w fun e w' => ∃ v2_ v3_ : Value, e = .returned (.agg #[.int .i64 r1, .int .u64 r2, v2_, v3_]) ∧ Kd.R (Kd.int .u8) 5 w' w.heap.size (fun k_ => (w.heap.size ≤ k_)) v2_ r3 ∧ Kd.N k26 26 w' w.heap.size (fun k_ => ((P1_2_ k_ ∨ P1_3_ k_ ∨ P2_2_ k_ ∨ P2_3_ k_) ∨ w.heap.size ≤ k_) ∧ some k_ ≠ (v2_ : Value).ownBlock) v3_ r4 ∧ Below w.heap.size w w' := by
  have hu26 := Try.underlying26
  have HO1_2 := Aside0.mk (show Kd.V (Kd.int .u8) 5 w w.heap.size (fun k_ => ((P1_2_ k_ ∨ P1_3_ k_ ∨ P2_2_ k_ ∨ P2_3_ k_) ∨ w.heap.size ≤ k_)) (.slice A1_2 l1_2.length c1_2) l1_2 from Kd.V_mono hs1_2 (fun k_ hk => .inl (.inl hk)))
  have HO1_3 := Aside0.mk (show Kd.V k26 26 w w.heap.size (fun k_ => ((P1_2_ k_ ∨ P1_3_ k_ ∨ P2_2_ k_ ∨ P2_3_ k_) ∨ w.heap.size ≤ k_)) (.slice A1_3 l1_3.length c1_3) l1_3 from Kd.V_mono hs1_3 (fun k_ hk => .inl (.inr (.inl hk))))
  have HO2_2 := Aside0.mk (show Kd.V (Kd.int .u8) 5 w w.heap.size (fun k_ => ((P1_2_ k_ ∨ P1_3_ k_ ∨ P2_2_ k_ ∨ P2_3_ k_) ∨ w.heap.size ≤ k_)) (.slice A2_2 l2_2.length c2_2) l2_2 from Kd.V_mono hs2_2 (fun k_ hk => .inl (.inr (.inr (.inl hk)))))
  have HO2_3 := Aside0.mk (show Kd.V k26 26 w w.heap.size (fun k_ => ((P1_2_ k_ ∨ P1_3_ k_ ∨ P2_2_ k_ ∨ P2_3_ k_) ∨ w.heap.size ≤ k_)) (.slice A2_3 l2_3.length c2_3) l2_3 from Kd.V_mono hs2_3 (fun k_ hk => .inl (.inr (.inr (.inr hk)))))
  have HB := Aside0.mk (Below.refl w.heap.size w)
  have H : (some (5, a0, ([] : List Int), (([(⟨a1_0, a1_1, l1_2, l1_3⟩ : S26), (⟨a2_0, a2_1, l2_2, l2_3⟩ : S26)] : List (S26))))) = some (r1, r2, r3, r4) := h
  clear h
  obtain ⟨y104, hy104⟩ : ∃ y_ : List (S26), y_ = (([(⟨a1_0, a1_1, l1_2, l1_3⟩ : S26), (⟨a2_0, a2_1, l2_2, l2_3⟩ : S26)] : List (S26))) := ⟨_, rfl⟩
  replace H : (some (5, a0, ([] : List Int), y104)) = some (r1, r2, r3, r4) := by first | (rw [hy104]; with_reducible exact H) | (have H2_ := (Option.bind_some _ _).symm.trans H; rw [hy104]; with_reducible exact H2_) | (have H2_ := (Option.bind_some _ _).symm.trans H; with_reducible exact H2_) | with_reducible exact H | (rw [hy104]; exact H) | exact H
  have Ny104 := Aside0.mk hy104
  clear hy104
  simp only [Option.some.injEq, Prod.mk.injEq] at H
  obtain ⟨rfl, rfl, rfl, rfl⟩ := H
  go_enter Try.func34, Try.ntmps34
  go_wp2_with (first | ((with_reducible refine gate_dst (N := 4) rfl ?_); refine box_event ?hg (N := 4) ?hd (cs := #[.int .i64 a1_0, .int .u64 a1_1, .slice A1_2 l1_2.length c1_2, .slice A1_3 l1_3.length c1_3]) (t := 26) ?hr ?_; (case hd => rfl); (case hg => rfl); (case hr => first | (go_simp; done) | (go_simp; rfl)); intro gb101 hg w4 hbox hb; have n0_ := Aside0.mk (Kd.V_below (Kd.V_elderB (by (with_reducible repeat (first | apply Kd.V_alloc | apply Kd.V_drewN | apply Kd.V_drew)); exact HO1_2.out) gb101 (Nat.le_of_eq hg.symm)) hb); have n1_ := Aside0.mk (Kd.V_below (Kd.V_elderB (by (with_reducible repeat (first | apply Kd.V_alloc | apply Kd.V_drewN | apply Kd.V_drew)); exact HO1_3.out) gb101 (Nat.le_of_eq hg.symm)) hb); have n2_ := Aside0.mk (Kd.V_below (Kd.V_elderB (by (with_reducible repeat (first | apply Kd.V_alloc | apply Kd.V_drewN | apply Kd.V_drew)); exact HO2_2.out) gb101 (Nat.le_of_eq hg.symm)) hb); have n3_ := Aside0.mk (Kd.V_below (Kd.V_elderB (by (with_reducible repeat (first | apply Kd.V_alloc | apply Kd.V_drewN | apply Kd.V_drew)); exact HO2_3.out) gb101 (Nat.le_of_eq hg.symm)) hb); have n4_ := Aside0.mk (below_step (by repeat (first | (with_reducible first | exact HB.out | apply below_alloc | apply pw_below_drewN | apply below_drew1) | exact HB.out)) hb); have n5_ := Aside0.mk (hbox); have n6_ := Aside0.mk ((by rw [hg]; exact (below_size (by repeat (first | (with_reducible first | exact HB.out | apply below_alloc | apply pw_below_drewN | apply below_drew1) | exact HB.out))) : w.heap.size ≤ gb101)); have n7_ := Aside0.mk ((by rw [hg]; exact (below_size (by repeat (first | (with_reducible first | exact HB.out | apply below_alloc | apply pw_below_drewN | apply below_drew1) | exact HB.out))) : w.heap.size ≤ gb101)); clear HO1_2; clear HO1_3; clear HO2_2; clear HO2_3; clear HB; have HO1_2 := n0_; have HO1_3 := n1_; have HO2_2 := n2_; have HO2_3 := n3_; have HB := n4_; have BK101 := n5_; have GW101 := n6_; have GE101 := n7_; clear n0_ n1_ n2_ n3_ n4_ n5_ n6_ n7_; clear hb hbox hg) | ((with_reducible refine gate_dst (N := 5) rfl ?_); refine box_event ?hg (N := 5) ?hd (cs := #[.int .i64 a2_0, .int .u64 a2_1, .slice A2_2 l2_2.length c2_2, .slice A2_3 l2_3.length c2_3]) (t := 26) ?hr ?_; (case hd => rfl); (case hg => rfl); (case hr => first | (go_simp; done) | (go_simp; rfl)); intro gb102 hg w5 hbox hb; have n0_ := Aside0.mk (Kd.V_below (Kd.V_elderB (by (with_reducible repeat (first | apply Kd.V_alloc | apply Kd.V_drewN | apply Kd.V_drew)); exact HO1_2.out) gb102 (Nat.le_of_eq hg.symm)) hb); have n1_ := Aside0.mk (Kd.V_below (Kd.V_elderB (by (with_reducible repeat (first | apply Kd.V_alloc | apply Kd.V_drewN | apply Kd.V_drew)); exact HO1_3.out) gb102 (Nat.le_of_eq hg.symm)) hb); have n2_ := Aside0.mk (Kd.V_below (Kd.V_elderB (by (with_reducible repeat (first | apply Kd.V_alloc | apply Kd.V_drewN | apply Kd.V_drew)); exact HO2_2.out) gb102 (Nat.le_of_eq hg.symm)) hb); have n3_ := Aside0.mk (Kd.V_below (Kd.V_elderB (by (with_reducible repeat (first | apply Kd.V_alloc | apply Kd.V_drewN | apply Kd.V_drew)); exact HO2_3.out) gb102 (Nat.le_of_eq hg.symm)) hb); have n4_ := Aside0.mk (blk_below (g := gb101) (o := .cells #[.int .i64 a1_0, .int .u64 a1_1, .slice A1_2 l1_2.length c1_2, .slice A1_3 l1_3.length c1_3] 26 (0, 0)) (by (with_reducible repeat (first | refine blk_drewN ?_ _ | refine blk_drew ?_ | refine blk_alloc ?_ _)); exact BK101.out) hb); have n5_ := Aside0.mk (below_step (by repeat (first | (with_reducible first | exact HB.out | apply below_alloc | apply pw_below_drewN | apply below_drew1 | refine below_set ?_ GE101.out) | exact HB.out)) hb); have n6_ := Aside0.mk (hbox); have n7_ := Aside0.mk ((by rw [hg]; exact (below_size (by repeat (first | (with_reducible first | exact HB.out | apply below_alloc | apply pw_below_drewN | apply below_drew1 | refine below_set ?_ GE101.out) | exact HB.out))) : w.heap.size ≤ gb102)); have n8_ := Aside0.mk ((by rw [hg]; exact (below_size (by repeat (first | (with_reducible first | exact HB.out | apply below_alloc | apply pw_below_drewN | apply below_drew1 | refine below_set ?_ GE101.out) | exact HB.out))) : w.heap.size ≤ gb102)); have n9_ := Aside0.mk ((by rw [hg]; exact Nat.ne_of_lt (blk_lt (g := gb101) (o := .cells #[.int .i64 a1_0, .int .u64 a1_1, .slice A1_2 l1_2.length c1_2, .slice A1_3 l1_3.length c1_3] 26 (0, 0)) (by (with_reducible repeat (first | refine blk_drewN ?_ _ | refine blk_drew ?_ | refine blk_alloc ?_ _)); exact BK101.out)) : gb101 ≠ gb102)); have n10_ := Aside0.mk ((by rw [hg]; exact Nat.ne_of_gt (blk_lt (g := gb101) (o := .cells #[.int .i64 a1_0, .int .u64 a1_1, .slice A1_2 l1_2.length c1_2, .slice A1_3 l1_3.length c1_3] 26 (0, 0)) (by (with_reducible repeat (first | refine blk_drewN ?_ _ | refine blk_drew ?_ | refine blk_alloc ?_ _)); exact BK101.out)) : gb102 ≠ gb101)); clear HO1_2; clear HO1_3; clear HO2_2; clear HO2_3; clear BK101; clear HB; have HO1_2 := n0_; have HO1_3 := n1_; have HO2_2 := n2_; have HO2_3 := n3_; have BK101 := n4_; have HB := n5_; have BK102 := n6_; have GW102 := n7_; have GE102 := n8_; have NB101_102 := n9_; have NB102_101 := n10_; clear n0_ n1_ n2_ n3_ n4_ n5_ n6_ n7_ n8_ n9_ n10_; clear hb hbox hg) | ((with_reducible refine gate_dst (N := 6) rfl ?_); refine box_event ?hg (N := 6) ?hd (cs := #[.int .i64 0, .int .u64 0, .slice none 0 0, .slice none 0 0]) (t := 26) ?hr ?_; (case hd => rfl); (case hg => rfl); (case hr => first | (go_simp; done) | (go_simp; rfl)); intro gb103 hg w6 hbox hb; have n0_ := Aside0.mk (Kd.V_below (Kd.V_elderB (by (with_reducible repeat (first | apply Kd.V_alloc | apply Kd.V_drewN | apply Kd.V_drew)); exact HO1_2.out) gb103 (Nat.le_of_eq hg.symm)) hb); have n1_ := Aside0.mk (Kd.V_below (Kd.V_elderB (by (with_reducible repeat (first | apply Kd.V_alloc | apply Kd.V_drewN | apply Kd.V_drew)); exact HO1_3.out) gb103 (Nat.le_of_eq hg.symm)) hb); have n2_ := Aside0.mk (Kd.V_below (Kd.V_elderB (by (with_reducible repeat (first | apply Kd.V_alloc | apply Kd.V_drewN | apply Kd.V_drew)); exact HO2_2.out) gb103 (Nat.le_of_eq hg.symm)) hb); have n3_ := Aside0.mk (Kd.V_below (Kd.V_elderB (by (with_reducible repeat (first | apply Kd.V_alloc | apply Kd.V_drewN | apply Kd.V_drew)); exact HO2_3.out) gb103 (Nat.le_of_eq hg.symm)) hb); have n4_ := Aside0.mk (blk_below (g := gb101) (o := .cells #[.int .i64 a1_0, .int .u64 a1_1, .slice A1_2 l1_2.length c1_2, .slice A1_3 l1_3.length c1_3] 26 (0, 0)) (by (with_reducible repeat (first | refine blk_drewN ?_ _ | refine blk_drew ?_ | refine blk_alloc ?_ _)); exact BK101.out) hb); have n5_ := Aside0.mk (blk_below (g := gb102) (o := .cells #[.int .i64 a2_0, .int .u64 a2_1, .slice A2_2 l2_2.length c2_2, .slice A2_3 l2_3.length c2_3] 26 (0, 0)) (by (with_reducible repeat (first | refine blk_drewN ?_ _ | refine blk_drew ?_ | refine blk_alloc ?_ _)); exact BK102.out) hb); have n6_ := Aside0.mk (below_step (by repeat (first | (with_reducible first | exact HB.out | apply below_alloc | apply pw_below_drewN | apply below_drew1 | refine below_set ?_ GE101.out | refine below_set ?_ GE102.out) | exact HB.out)) hb); have n7_ := Aside0.mk (hbox); have n8_ := Aside0.mk ((by rw [hg]; exact (below_size (by repeat (first | (with_reducible first | exact HB.out | apply below_alloc | apply pw_below_drewN | apply below_drew1 | refine below_set ?_ GE101.out | refine below_set ?_ GE102.out) | exact HB.out))) : w.heap.size ≤ gb103)); have n9_ := Aside0.mk ((by rw [hg]; exact (below_size (by repeat (first | (with_reducible first | exact HB.out | apply below_alloc | apply pw_below_drewN | apply below_drew1 | refine below_set ?_ GE101.out | refine below_set ?_ GE102.out) | exact HB.out))) : w.heap.size ≤ gb103)); have n10_ := Aside0.mk ((by rw [hg]; exact Nat.ne_of_lt (blk_lt (g := gb101) (o := .cells #[.int .i64 a1_0, .int .u64 a1_1, .slice A1_2 l1_2.length c1_2, .slice A1_3 l1_3.length c1_3] 26 (0, 0)) (by (with_reducible repeat (first | refine blk_drewN ?_ _ | refine blk_drew ?_ | refine blk_alloc ?_ _)); exact BK101.out)) : gb101 ≠ gb103)); have n11_ := Aside0.mk ((by rw [hg]; exact Nat.ne_of_gt (blk_lt (g := gb101) (o := .cells #[.int .i64 a1_0, .int .u64 a1_1, .slice A1_2 l1_2.length c1_2, .slice A1_3 l1_3.length c1_3] 26 (0, 0)) (by (with_reducible repeat (first | refine blk_drewN ?_ _ | refine blk_drew ?_ | refine blk_alloc ?_ _)); exact BK101.out)) : gb103 ≠ gb101)); have n12_ := Aside0.mk ((by rw [hg]; exact Nat.ne_of_lt (blk_lt (g := gb102) (o := .cells #[.int .i64 a2_0, .int .u64 a2_1, .slice A2_2 l2_2.length c2_2, .slice A2_3 l2_3.length c2_3] 26 (0, 0)) (by (with_reducible repeat (first | refine blk_drewN ?_ _ | refine blk_drew ?_ | refine blk_alloc ?_ _)); exact BK102.out)) : gb102 ≠ gb103)); have n13_ := Aside0.mk ((by rw [hg]; exact Nat.ne_of_gt (blk_lt (g := gb102) (o := .cells #[.int .i64 a2_0, .int .u64 a2_1, .slice A2_2 l2_2.length c2_2, .slice A2_3 l2_3.length c2_3] 26 (0, 0)) (by (with_reducible repeat (first | refine blk_drewN ?_ _ | refine blk_drew ?_ | refine blk_alloc ?_ _)); exact BK102.out)) : gb103 ≠ gb102)); clear HO1_2; clear HO1_3; clear HO2_2; clear HO2_3; clear BK101; clear BK102; clear HB; have HO1_2 := n0_; have HO1_3 := n1_; have HO2_2 := n2_; have HO2_3 := n3_; have BK101 := n4_; have BK102 := n5_; have HB := n6_; have BK103 := n7_; have GW103 := n8_; have GE103 := n9_; have NB101_103 := n10_; have NB103_101 := n11_; have NB102_103 := n12_; have NB103_102 := n13_; clear n0_ n1_ n2_ n3_ n4_ n5_ n6_ n7_ n8_ n9_ n10_ n11_ n12_ n13_; clear hb hbox hg; have hnb7 := NB101_102.out; have hnc7 := NB102_101.out; have hnb8 := NB101_103.out; have hnc8 := NB103_101.out; have hcz9_0 : w6.cell? ⟨gb101, 0, none⟩ = some (.int .i64 a1_0) := (blk_cell BK101.out 0).trans rfl; have hcz9_1 : w6.cell? ⟨gb101, 1, none⟩ = some (.int .u64 a1_1) := (blk_cell BK101.out 1).trans rfl; have hcz9_2 : w6.cell? ⟨gb101, 2, none⟩ = some (.slice A1_2 l1_2.length c1_2) := (blk_cell BK101.out 2).trans rfl; have hcz9_3 : w6.cell? ⟨gb101, 3, none⟩ = some (.slice A1_3 l1_3.length c1_3) := (blk_cell BK101.out 3).trans rfl; have hfz9_0 := blk_frozen BK101.out 0; have hfz9_1 := blk_frozen BK101.out 1; have hfz9_2 := blk_frozen BK101.out 2; have hfz9_3 := blk_frozen BK101.out 3; have hnb10 := NB102_103.out; have hnc10 := NB103_102.out; have hcz11_0 : w6.cell? ⟨gb102, 0, none⟩ = some (.int .i64 a2_0) := (blk_cell BK102.out 0).trans rfl; have hcz11_1 : w6.cell? ⟨gb102, 1, none⟩ = some (.int .u64 a2_1) := (blk_cell BK102.out 1).trans rfl; have hcz11_2 : w6.cell? ⟨gb102, 2, none⟩ = some (.slice A2_2 l2_2.length c2_2) := (blk_cell BK102.out 2).trans rfl; have hcz11_3 : w6.cell? ⟨gb102, 3, none⟩ = some (.slice A2_3 l2_3.length c2_3) := (blk_cell BK102.out 3).trans rfl; have hfz11_0 := blk_frozen BK102.out 0; have hfz11_1 := blk_frozen BK102.out 1; have hfz11_2 := blk_frozen BK102.out 2; have hfz11_3 := blk_frozen BK102.out 3) | ((with_reducible refine gate_dst (N := 10) rfl ?_); refine Kd.N_lit k26 _ 26 ?hg (N' := 10) ?hd (xs := ([(⟨a1_0, a1_1, l1_2, l1_3⟩ : S26), (⟨a2_0, a2_1, l2_2, l2_3⟩ : S26)] : List (S26))) (inner := [.int .i64 a1_0, .int .u64 a1_1, .slice A1_2 l1_2.length c1_2, .slice A1_3 l1_3.length c1_3, .int .i64 a2_0, .int .u64 a2_1, .slice A2_2 l2_2.length c2_2, .slice A2_3 l2_3.length c2_3]) (ok := (fun k_ => ((P1_2_ k_ ∨ P1_3_ k_ ∨ P2_2_ k_ ∨ P2_3_ k_) ∨ w.heap.size ≤ k_) ∧ k_ ≠ gb101 ∧ k_ ≠ gb102 ∧ k_ ≠ gb103)) (okp := (fun k_ => ((P1_2_ k_ ∨ P1_3_ k_ ∨ P2_2_ k_ ∨ P2_3_ k_) ∨ w.heap.size ≤ k_) ∧ k_ ≠ gb101 ∧ k_ ≠ gb102 ∧ k_ ≠ gb103)) ?hr ?hp (fun _ hk => hk) ((show ∀ k_, w6.heap.size ≤ k_ → (fun k_ => ((P1_2_ k_ ∨ P1_3_ k_ ∨ P2_2_ k_ ∨ P2_3_ k_) ∨ w.heap.size ≤ k_) ∧ k_ ≠ gb101 ∧ k_ ≠ gb102 ∧ k_ ≠ gb103) k_ from fun k_ hk => ⟨(.inr (Nat.le_trans (below_size (by repeat (first | (with_reducible first | exact HB.out | apply below_alloc | apply pw_below_drewN | apply below_drew1 | refine below_set ?_ GE101.out | refine below_set ?_ GE102.out | refine below_set ?_ GE103.out) | exact HB.out))) hk)), Kd.freshB (g := gb101) (o := .cells #[.int .i64 a1_0, .int .u64 a1_1, .slice A1_2 l1_2.length c1_2, .slice A1_3 l1_3.length c1_3] 26 (0, 0)) (by (with_reducible repeat (first | refine blk_drewN ?_ _ | refine blk_drew ?_ | refine blk_alloc ?_ _)); exact BK101.out) k_ hk, Kd.freshB (g := gb102) (o := .cells #[.int .i64 a2_0, .int .u64 a2_1, .slice A2_2 l2_2.length c2_2, .slice A2_3 l2_3.length c2_3] 26 (0, 0)) (by (with_reducible repeat (first | refine blk_drewN ?_ _ | refine blk_drew ?_ | refine blk_alloc ?_ _)); exact BK102.out) k_ hk, Kd.freshB (g := gb103) (o := .cells #[.int .i64 0, .int .u64 0, .slice none 0 0, .slice none 0 0] 26 (0, 0)) (by (with_reducible repeat (first | refine blk_drewN ?_ _ | refine blk_drew ?_ | refine blk_alloc ?_ _)); exact BK103.out) k_ hk⟩) _ (Nat.le_refl _)) (Below.refl _ _) (Nat.le_refl _) (by simp) ?_; (case hd => rfl); (case hg => rfl); (case hr => first | (go_simp; done) | (go_simp; rfl)); (case hp => exact (Reps.c4 (show Kd.FK k26 _ _ (⟨a1_0, a1_1, l1_2, l1_3⟩ : S26) [.int .i64 a1_0, .int .u64 a1_1, .slice A1_2 l1_2.length c1_2, .slice A1_3 l1_3.length c1_3] from (k26_mkF _ _ (⟨a1_0, a1_1, l1_2, l1_3⟩ : S26) (Kd.V_reads' (Kd.V_mono (ok' := (fun k_ => ((P1_2_ k_ ∨ P1_3_ k_ ∨ P2_2_ k_ ∨ P2_3_ k_) ∨ w.heap.size ≤ k_) ∧ k_ ≠ gb101 ∧ k_ ≠ gb102 ∧ k_ ≠ gb103)) (HO1_2.out) (fun k_ hk => ⟨hk.1.1.1, ⟨hk.1.1.2, ⟨hk.1.2, hk.2⟩⟩⟩))).2.1 (Kd.V_F (Kd.V_mono (ok' := (fun k_ => ((P1_2_ k_ ∨ P1_3_ k_ ∨ P2_2_ k_ ∨ P2_3_ k_) ∨ w.heap.size ≤ k_) ∧ k_ ≠ gb101 ∧ k_ ≠ gb102 ∧ k_ ≠ gb103)) (HO1_2.out) (fun k_ hk => ⟨hk.1.1.1, ⟨hk.1.1.2, ⟨hk.1.2, hk.2⟩⟩⟩))) (Kd.V_reads' (Kd.V_mono (ok' := (fun k_ => ((P1_2_ k_ ∨ P1_3_ k_ ∨ P2_2_ k_ ∨ P2_3_ k_) ∨ w.heap.size ≤ k_) ∧ k_ ≠ gb101 ∧ k_ ≠ gb102 ∧ k_ ≠ gb103)) (HO1_3.out) (fun k_ hk => ⟨hk.1.1.1, ⟨hk.1.1.2, ⟨hk.1.2, hk.2⟩⟩⟩))).2.1 (Kd.V_F (Kd.V_mono (ok' := (fun k_ => ((P1_2_ k_ ∨ P1_3_ k_ ∨ P2_2_ k_ ∨ P2_3_ k_) ∨ w.heap.size ≤ k_) ∧ k_ ≠ gb101 ∧ k_ ≠ gb102 ∧ k_ ≠ gb103)) (HO1_3.out) (fun k_ hk => ⟨hk.1.1.1, ⟨hk.1.1.2, ⟨hk.1.2, hk.2⟩⟩⟩))))) (Reps.c4 (show Kd.FK k26 _ _ (⟨a2_0, a2_1, l2_2, l2_3⟩ : S26) [.int .i64 a2_0, .int .u64 a2_1, .slice A2_2 l2_2.length c2_2, .slice A2_3 l2_3.length c2_3] from (k26_mkF _ _ (⟨a2_0, a2_1, l2_2, l2_3⟩ : S26) (Kd.V_reads' (Kd.V_mono (ok' := (fun k_ => ((P1_2_ k_ ∨ P1_3_ k_ ∨ P2_2_ k_ ∨ P2_3_ k_) ∨ w.heap.size ≤ k_) ∧ k_ ≠ gb101 ∧ k_ ≠ gb102 ∧ k_ ≠ gb103)) (HO2_2.out) (fun k_ hk => ⟨hk.1.1.1, ⟨hk.1.1.2, ⟨hk.1.2, hk.2⟩⟩⟩))).2.1 (Kd.V_F (Kd.V_mono (ok' := (fun k_ => ((P1_2_ k_ ∨ P1_3_ k_ ∨ P2_2_ k_ ∨ P2_3_ k_) ∨ w.heap.size ≤ k_) ∧ k_ ≠ gb101 ∧ k_ ≠ gb102 ∧ k_ ≠ gb103)) (HO2_2.out) (fun k_ hk => ⟨hk.1.1.1, ⟨hk.1.1.2, ⟨hk.1.2, hk.2⟩⟩⟩))) (Kd.V_reads' (Kd.V_mono (ok' := (fun k_ => ((P1_2_ k_ ∨ P1_3_ k_ ∨ P2_2_ k_ ∨ P2_3_ k_) ∨ w.heap.size ≤ k_) ∧ k_ ≠ gb101 ∧ k_ ≠ gb102 ∧ k_ ≠ gb103)) (HO2_3.out) (fun k_ hk => ⟨hk.1.1.1, ⟨hk.1.1.2, ⟨hk.1.2, hk.2⟩⟩⟩))).2.1 (Kd.V_F (Kd.V_mono (ok' := (fun k_ => ((P1_2_ k_ ∨ P1_3_ k_ ∨ P2_2_ k_ ∨ P2_3_ k_) ∨ w.heap.size ≤ k_) ∧ k_ ≠ gb101 ∧ k_ ≠ gb102 ∧ k_ ≠ gb103)) (HO2_3.out) (fun k_ hk => ⟨hk.1.1.1, ⟨hk.1.1.2, ⟨hk.1.2, hk.2⟩⟩⟩))))) (Reps.none _ _)))); intro v105 w12 ho13 hb hg_ hnew_; clear hg_ hnew_; (first | rw [← Ny104.out] at ho13 | (simp only [Int.reduceToNat] at ho13; rw [← Ny104.out] at ho13)); have n0_ := Aside0.mk (Kd.V_elder' (by (with_reducible repeat (first | apply Kd.V_alloc | apply Kd.V_drewN | apply Kd.V_drew)); exact HO1_2.out) (Kd.N_base ho13) hb); have n1_ := Aside0.mk (Kd.V_elder' (by (with_reducible repeat (first | apply Kd.V_alloc | apply Kd.V_drewN | apply Kd.V_drew)); exact HO1_3.out) (Kd.N_base ho13) hb); have n2_ := Aside0.mk (Kd.V_elder' (by (with_reducible repeat (first | apply Kd.V_alloc | apply Kd.V_drewN | apply Kd.V_drew)); exact HO2_2.out) (Kd.N_base ho13) hb); have n3_ := Aside0.mk (Kd.V_elder' (by (with_reducible repeat (first | apply Kd.V_alloc | apply Kd.V_drewN | apply Kd.V_drew)); exact HO2_3.out) (Kd.N_base ho13) hb); have n4_ := Aside0.mk (Kd.N_lower ho13 (below_size (by repeat (first | (with_reducible first | exact HB.out | apply below_alloc | apply pw_below_drewN | apply below_drew1 | refine below_set ?_ GE101.out | refine below_set ?_ GE102.out | refine below_set ?_ GE103.out) | exact HB.out)))); have n5_ := Aside0.mk (blk_below (g := gb101) (o := .cells #[.int .i64 a1_0, .int .u64 a1_1, .slice A1_2 l1_2.length c1_2, .slice A1_3 l1_3.length c1_3] 26 (0, 0)) (by (with_reducible repeat (first | refine blk_drewN ?_ _ | refine blk_drew ?_ | refine blk_alloc ?_ _)); exact BK101.out) hb); have n6_ := Aside0.mk (blk_below (g := gb102) (o := .cells #[.int .i64 a2_0, .int .u64 a2_1, .slice A2_2 l2_2.length c2_2, .slice A2_3 l2_3.length c2_3] 26 (0, 0)) (by (with_reducible repeat (first | refine blk_drewN ?_ _ | refine blk_drew ?_ | refine blk_alloc ?_ _)); exact BK102.out) hb); have n7_ := Aside0.mk (blk_below (g := gb103) (o := .cells #[.int .i64 0, .int .u64 0, .slice none 0 0, .slice none 0 0] 26 (0, 0)) (by (with_reducible repeat (first | refine blk_drewN ?_ _ | refine blk_drew ?_ | refine blk_alloc ?_ _)); exact BK103.out) hb); have n8_ := Aside0.mk (below_step (by repeat (first | (with_reducible first | exact HB.out | apply below_alloc | apply pw_below_drewN | apply below_drew1 | refine below_set ?_ GE101.out | refine below_set ?_ GE102.out | refine below_set ?_ GE103.out) | exact HB.out)) hb); clear HO1_2; clear HO1_3; clear HO2_2; clear HO2_3; clear BK101; clear BK102; clear BK103; clear HB; have HO1_2 := n0_; have HO1_3 := n1_; have HO2_2 := n2_; have HO2_3 := n3_; have HO106 := n4_; have BK101 := n5_; have BK102 := n6_; have BK103 := n7_; have HB := n8_; clear n0_ n1_ n2_ n3_ n4_ n5_ n6_ n7_ n8_; clear hb ho13; obtain ⟨Ao14, co14, eo14⟩ := Kd.N_slice HO106.out; subst eo14; have hcz15_0 : w12.cell? ⟨gb103, 0, none⟩ = some (.int .i64 0) := (blk_cell BK103.out 0).trans rfl; have hcz15_1 : w12.cell? ⟨gb103, 1, none⟩ = some (.int .u64 0) := (blk_cell BK103.out 1).trans rfl; have hcz15_2 : w12.cell? ⟨gb103, 2, none⟩ = some (.slice none 0 0) := (blk_cell BK103.out 2).trans rfl; have hcz15_3 : w12.cell? ⟨gb103, 3, none⟩ = some (.slice none 0 0) := (blk_cell BK103.out 3).trans rfl; have hfz15_0 := blk_frozen BK103.out 0; have hfz15_1 := blk_frozen BK103.out 1; have hfz15_2 := blk_frozen BK103.out 2; have hfz15_3 := blk_frozen BK103.out 3))
  refine bodyPost_ret (results_cell_row rfl _ _ gb103 26 #[.int .i64 5, .int .u64 a0, .slice none 0 0, .slice Ao14 y104.length co14] (0, 0) _ rfl (by (with_reducible repeat (first | refine blk_drewN ?_ _ | refine blk_drew ?_ | refine blk_alloc ?_ _)); refine blk_put (cs := #[.int .i64 5, .int .u64 a0, .slice none 0 0, .slice none 0 0]) ?_ 3 _ rfl; (with_reducible repeat (first | refine blk_drewN ?_ _ | refine blk_drew ?_ | refine blk_alloc ?_ _)); refine blk_put (cs := #[.int .i64 5, .int .u64 a0, .slice none 0 0, .slice none 0 0]) ?_ 2 _ rfl; (with_reducible repeat (first | refine blk_drewN ?_ _ | refine blk_drew ?_ | refine blk_alloc ?_ _)); refine blk_put (cs := #[.int .i64 5, .int .u64 0, .slice none 0 0, .slice none 0 0]) ?_ 1 _ rfl; (with_reducible repeat (first | refine blk_drewN ?_ _ | refine blk_drew ?_ | refine blk_alloc ?_ _)); refine blk_put (cs := #[.int .i64 0, .int .u64 0, .slice none 0 0, .slice none 0 0]) ?_ 0 _ rfl; (with_reducible repeat (first | refine blk_drewN ?_ _ | refine blk_drew ?_ | refine blk_alloc ?_ _)); exact BK103.out) Try.underlying26 rfl (by kernel_rfl)) rfl ?_
  exact ⟨_, _, by first | rfl | (simp [errW_none, errW_some] <;> rfl) | (simp [*, errW_none, errW_some] <;> rfl), by first | exact Kd.R_nil _ _ _ _ _ | exact Kd.N_nil _ _ _ _ _ | exact Kd.V_nil _ _ _ _ _ | exact Kd.Q_nil _ _ _ _ _ | exact Kd.S_nil _ _ _ _ _, by (with_reducible repeat (first | apply Kd.N_alloc | apply Kd.N_drewN | apply Kd.N_drew)); exact Kd.N_mono (Kd.N_far (p := ⟨gb103, 3, none⟩) (Kd.N_far (p := ⟨gb103, 2, none⟩) (Kd.N_far (p := ⟨gb103, 1, none⟩) (Kd.N_far (p := ⟨gb103, 0, none⟩) (Kd.N_mono HO106.out (fun k_ hk => (⟨hk, hk.2.2.2⟩ : _ ∧ k_ ≠ gb103))) (fun _ hk => hk.2) (.int .i64 5)) (fun _ hk => hk.2) (.int .u64 a0)) (fun _ hk => hk.2) (.slice none 0 0)) (fun _ hk => hk.2) (.slice Ao14 y104.length co14)) (fun _ hk => ⟨hk.1.1, (by simp [Value.ownBlock])⟩), by repeat (first | (with_reducible first | exact HB.out | apply below_alloc | apply pw_below_drewN | apply below_drew1 | refine below_set ?_ GE101.out | refine below_set ?_ GE102.out | refine below_set ?_ GE103.out) | exact HB.out)⟩

end Go.Proofs.Ytgohmganimamcaa.PZ
-- printed for this claim by a program (pall.sh)
-- mended by fixpz.py
namespace Go.Proofs.Ytgohmganimamcaa.PZ
open Go.RowKit Go.Proofs.YtgohmganimamcaaW.PrintWords Go.Proofs.YtgohmganimamcaaW.PrintLast Go.Proofs.YtgohmganimamcaaW.PrintMore
attribute [local go_sem] max2_int min2_int max_two min_two max_three min_three max_four min_four   -- for this text's walks alone
set_option linter.unusedVariables false
set_option linter.unusedSimpArgs false

/-! ### hanaperlaw05_num: function 15 -/
def hanaperlaw05_num.f (a0 : Int) : Option (Int) := some a0
set_option maxHeartbeats 8000000 in
set_option maxRecDepth 100000 in
theorem hanaperlaw05_num.calls (a0 : Int) (r : Int) (w : World) (h : hanaperlaw05_num.f a0 = some r) :
    Calls Try.prog 15 #[.int .i64 a0] w fun e w' => e = .returned (.int .i64 r) ∧ Drawn0 w w' := by
  have H : (some a0) = some r := h
  clear h
  obtain rfl := Option.some.inj H
  go_enter Try.func15, Try.ntmps15
  go_wp2
  go_ret
  exact ⟨by first | rfl | (simp; done) | (simp [*]; done), by repeat (first | exact Drawn0.refl _ | apply Drawn0.step)⟩

end Go.Proofs.Ytgohmganimamcaa.PZ
/- The example of layer 5. -/
namespace Go.Proofs.Ytgohmganimamcaa.Term
set_option linter.unusedVariables false
set_option linter.unusedSimpArgs false
open Go.RowKit Go.Proofs.Ytgohmganimamcaa.Base Go.Proofs.Ytgohmganimamcaa.TlvPlain Go.Proofs.Ytgohmganimamcaa.Lo Go.Proofs.Ytgohmganimamcaa.RdPlain Go.Proofs.Ytgohmganimamcaa.Aid Go.Proofs.Ytgohmganimamcaa.PZ Go.Proofs.YtgohmganimamcaaW.PrintWords Go.Proofs.YtgohmganimamcaaW.PrintLast Go.Proofs.YtgohmganimamcaaW.PrintMore
theorem numB_small {n : Nat} (h0 : 0 < n) (h : n < 256) : numB (n : Int) = [1, (n : Int)] := by
  unfold numB
  rw [show ((n : Int)).toNat = n from rfl, be_pos h0, show n / 256 = 0 by omega, be_zero]
  simp
  omega
def exE : ST := ⟨5, 5, [], [⟨3, 0, [97], []⟩, ⟨2, 7, [], []⟩]⟩
theorem put_ex : putT exE = [5, 1, 5, 3, 1, 1, 97, 2, 1, 7] := by
  have h5 : numB 5 = [1, 5] := numB_small (n := 5) (by omega) (by omega)
  have h7 : numB 7 = [1, 7] := numB_small (n := 7) (by omega) (by omega)
  have ha : textB [97] = [1, 1, 97] := by
    unfold textB
    rw [show numB (([97] : List Int).length : Int) = [1, 1] from numB_small (n := 1) (by omega) (by omega)]
    rfl
  unfold exE
  simp [putT_eq, headT, numT, datT, h5, h7, ha]
theorem may_ex : mayT 8 exE = true := by decide +kernel
theorem wf_ex : wfT exE := (wfB_iff _).1 (by decide +kernel)
theorem putV_ex : putV exE = ([5, 1, 5, 3, 1, 1, 97, 2, 1, 7], 0) := by
  unfold putV
  rw [if_pos may_ex, put_ex]
  rfl
theorem get_ex : getT [5, 1, 5, 3, 1, 1, 97, 2, 1, 7] = (exE, 10, 0) := by
  have h := t_get_put wf_ex may_ex (by rw [put_ex]; decide) []
  rw [List.append_nil, put_ex] at h
  exact h
theorem u8_ex : U8 [5, 1, 5, 3, 1, 1, 97, 2, 1, 7] := by intro x hx; simp at hx; omega
theorem hcr (w : World) (o : Obj) (n : Nat) : Kd.C (Kd.int .u8) (((w.alloc o).drewN n).alloc (.cells #[.int .u8 5, .int .u8 1, .int .u8 5, .int .u8 3, .int .u8 1, .int .u8 1, .int .u8 97, .int .u8 2, .int .u8 1, .int .u8 7] 5)) (some ⟨w.heap.size + 1, 0, none⟩) 10 [5, 1, 5, 3, 1, 1, 97, 2, 1, 7] := by
  have h := const_reads ((w.alloc o).drewN n) [5, 1, 5, 3, 1, 1, 97, 2, 1, 7] #[.int .u8 5, .int .u8 1, .int .u8 5, .int .u8 3, .int .u8 1, .int .u8 1, .int .u8 97, .int .u8 2, .int .u8 1, .int .u8 7] (0, 0) rfl (by simp)
  rw [show ((w.alloc o).drewN n).heap.size = w.heap.size + 1 from size_alloc w o] at h
  exact h
set_option maxHeartbeats 3200000 in
set_option maxRecDepth 100000 in
theorem live_c (w : World) : Calls Try.prog 11 #[] w fun e w' => e = .returned (.bool true) ∧ Below w.heap.size w w' := by
  have HB := Aside0.mk (Below.refl w.heap.size w)
  have kc := fun (w : World) (C : Array Value) (n c : Nat) => Lib.run_convert_bytes_const (P := Try.prog) w 23 5 C n c Try.underlying23 Try.underlying5
  have hu26 := Try.underlying26
  go_enter Try.func11, Try.ntmps11
  go_wp2_with (first
    | (go_at_call 38; refine (term_Data.calls (some ⟨_, 0, none⟩) 1 [97] 3 0 [97] [] _ (const_reads _ [97] #[.int .u8 97] (1, 2) rfl (by simp)) (by simp) (by simp [term_Data.f, bytes_Clone.f])).mono ?_; rintro e w1 ⟨v2, v3, rfl, ho2, ho3, hb⟩; have HO2 := Aside0.mk ho2; have HO3 := Aside0.mk ho3; have HB1 := Aside0.mk (below_step (below_alloc HB.out _) hb); obtain ⟨A2, c2, rfl⟩ := Kd.R_slice ho2; obtain ⟨A3, c3, rfl⟩ := Kd.R_slice ho3; clear ho2 ho3 hb)
    | (go_at_call 37; refine (term_Key.calls 7 2 7 [] [] _ rfl).mono ?_; rintro e w2 ⟨v4, v5, rfl, ho4, ho5, hb⟩; have HO2' := Aside0.mk (Kd.R_below HO2.out hb); have HO3' := Aside0.mk (Kd.R_below HO3.out hb); have HO4 := Aside0.mk ho4; have HO5 := Aside0.mk ho5; have HB2 := Aside0.mk (below_step HB1.out hb); obtain ⟨A4, c4, rfl⟩ := Kd.R_slice ho4; obtain ⟨A5, c5, rfl⟩ := Kd.R_slice ho5; clear ho4 ho5 hb)
    | (go_at_call 34; refine (term_Enc.calls 5 3 0 _ A2 c2 [97] _ A3 c3 [] 2 7 _ A4 c4 [] _ A5 c5 [] 5 5 [] [⟨3, 0, [97], []⟩, ⟨2, 7, [], []⟩] _ (Kd.R_V HO2'.out) (Kd.R_V HO3'.out) (Kd.R_V HO4.out) (Kd.R_V HO5.out) rfl).mono ?_; rintro e w3 ⟨v6, v7, rfl, ho6, ho7, hb⟩; obtain ⟨A6, c6, rfl⟩ := Kd.R_slice ho6; obtain ⟨A7, c7, rfl⟩ := Kd.N_slice ho7; have HO6 := Aside0.mk (Kd.R_reads' ho6); have HO7 := Aside0.mk (Kd.N_reads' ho7); have HB3 := Aside0.mk (below_step HB2.out hb); clear hb ho6 ho7)
    | (go_at_call 12; refine (put_c exE wf_ex A6 c6 A7 c7 _ ⟨⟨HO6.out.2.1, HO6.out.2.2⟩, HO7.out.2.1, HO7.out.2.2⟩).mono ?_; rw [putV_ex]; rintro e w4 ⟨v, rfl, ho, hb⟩; obtain ⟨A8, c8, rfl, hl8, hr8⟩ := Ob.reads ho; have HL8 := Aside0.mk hl8; have HR8 := Aside0.mk hr8; have HB4 := Aside0.mk (below_step HB3.out hb); clear ho hb hl8 hr8)
    | (go_at_call 18; refine (get_c _ A8 c8 [5, 1, 5, 3, 1, 1, 97, 2, 1, 7] HR8.out HL8.out (by simp) u8_ex).mono ?_; unfold GetQ; rw [get_ex]; rintro e w5 ⟨v9, v10, rfl, ho, ho2, hb⟩; obtain ⟨A9, c9, rfl⟩ := Kd.R_slice ho; obtain ⟨A10, c10, rfl⟩ := Kd.R_slice ho2; dsimp only [exE]; have HB5 := Aside0.mk (below_step HB4.out hb); have HR9 := Aside0.mk (Kd.C_below HR8.out hb); clear ho ho2 hb)
    | (go_at_call 15; refine (hanaperlaw05_num.calls 0 0 _ rfl).mono ?_; rintro e w' ⟨rfl, ⟨nd, rfl⟩⟩)
    | (go_at_call 14; go_must (refine (same_c A8 c8 [5, 1, 5, 3, 1, 1, 97, 2, 1, 7] (some ⟨w5.heap.size + 1, 0, none⟩) 10 [5, 1, 5, 3, 1, 1, 97, 2, 1, 7] _ (Kd.C_alloc (Kd.C_drewN (Kd.C_alloc HR9.out _) _) _) HL8.out (hcr _ _ _) (by simp) (by simp)).mono ?_); rintro e w6 ⟨rfl, hd⟩; have HB6 := Aside0.mk (below_step (below_alloc (pw_below_drewN (below_alloc HB5.out _) _) _) (Drawn0.below hd)); have hb5 := (((show Blk (w5.alloc (.cells #[.int .i64 5, .int .u64 5, .slice A9 0 c9, .slice A10 2 c10] 26)) w5.heap.size 26 #[.int .i64 5, .int .u64 5, .slice A9 0 c9, .slice A10 2 c10] from blk_new _ _).below (pw_below_drewN (Below.refl _ _) _)).alloc _).below (Drawn0.below hd); have q0 := hb5.cell 0; simp only [List.getElem?_toArray, List.getElem?_cons_zero, List.getElem?_cons_succ] at q0; clear hd hb5))
  go_ret
  exact ⟨rfl, HB6.out⟩
end Go.Proofs.Ytgohmganimamcaa.Term
/- The example of layer 5 in the printed functions' form. -/
namespace Go.Proofs.Ytgohmganimamcaa.PZ
set_option linter.unusedVariables false
open Go.RowKit Go.Proofs.YtgohmganimamcaaW.PrintWords Go.Proofs.Ytgohmganimamcaa.Term
def hanaperlaw05_live.f : Option Bool := some true
theorem hanaperlaw05_live.calls (r : Bool) (w : World) (h : hanaperlaw05_live.f = some r) : Calls Try.prog 11 #[] w fun e w' => e = .returned (.bool r) ∧ Below w.heap.size w w' := by
  obtain rfl := Option.some.inj h
  exact live_c w
theorem same_cut (k : Nat) (A0 : Option Addr) (c0 : Nat) (l0 : List Int) (A1 : Option Addr) (c1 : Nat) (l1 : List Int) (r : Bool) (w : World) (n : Nat) (hn : l1.length = n) (hr0 : Kd.C (Kd.int .u8) w A0 l0.length l0) (hc0 : l0.length ≤ c0) (hr1 : Kd.C (Kd.int .u8) w A1 l1.length l1) (hc1 : l1.length ≤ c1) (h : hanaperref01_Same.f k l0 l1 = some r) :
    Calls Try.prog 14 #[.slice A0 l0.length c0, .slice A1 n c1] w fun e w' => e = .returned (.bool r) ∧ Drawn0 w w' := by
  subst hn
  exact hanaperref01_Same.calls k A0 c0 l0 A1 c1 l1 r w hr0 hc0 hr1 hc1 h
theorem cut_len {l : List Int} {n : Int} (h : decide (n ≤ (l.length : Int)) = true) : (l.take n.toNat).length = n.toNat := by
  have := of_decide_eq_true h
  rw [List.length_take]
  omega
end Go.Proofs.Ytgohmganimamcaa.PZ
-- printed for this claim by a program (pall.sh)
-- mended by fixpz.py
namespace Go.Proofs.Ytgohmganimamcaa.PZ
open Go.RowKit Go.Proofs.YtgohmganimamcaaW.PrintWords Go.Proofs.YtgohmganimamcaaW.PrintLast Go.Proofs.YtgohmganimamcaaW.PrintMore
attribute [local go_sem] max2_int min2_int max_two min_two max_three min_three max_four min_four   -- for this text's walks alone
set_option linter.unusedVariables false
set_option linter.unusedSimpArgs false

/-! ### hanaperref05_rest: function 40 -/
mutual
def hanaperref05_rest.j0 : Nat → Int → Int → Bool → Int → Int → List Int → List (S26) → Option (Int)
  | 0, _, _, _, _, _, _, _ => none
  | k + 1, x1, x2, x26, x102000, x102001, x102002, x102003 => if x26 = true then (some (-1)) else (hanaperref05_rest.l0 k (wrap64 (x1 - 1)) x2 0 x102000 x102001 x102002 x102003)
def hanaperref05_rest.l0 : Nat → Int → Int → Int → Int → Int → List Int → List (S26) → Option (Int)
  | 0, _, _, _, _, _, _, _ => none
  | k + 1, x1, x2, x7, x102000, x102001, x102002, x102003 => if x7 < (x102003.length : Int) then (if x1 ≥ 0 then (if 0 ≤ x7 then ((hanaperref05_rest.f k ((rd_T26 x102003 x7).f0) ((rd_T26 x102003 x7).f1) ((rd_T26 x102003 x7).f2) ((rd_T26 x102003 x7).f3) x1 (wrap64 (x2 - 1))).bind fun t103 => (hanaperref05_rest.l0 k t103 x2 (wrap64 (x7 + 1)) x102000 x102001 x102002 x102003)) else (none)) else (some x1)) else (some x1)
def hanaperref05_rest.f : Nat → Int → Int → List Int → List (S26) → Int → Int → Option (Int)
  | 0, _, _, _, _, _, _ => none
  | k + 1, a0_0, a0_1, l0_2, l0_3, a1, a2 => if a1 < 1 then (hanaperref05_rest.j0 k a1 a2 true a0_0 a0_1 l0_2 l0_3) else (if a2 < 1 then (hanaperref05_rest.j0 k a1 a2 true a0_0 a0_1 l0_2 l0_3) else (if (l0_3.length : Int) > a1 then (hanaperref05_rest.j0 k a1 a2 true a0_0 a0_1 l0_2 l0_3) else (hanaperref05_rest.j0 k a1 a2 (decide ((l0_2.length : Int) > 500)) a0_0 a0_1 l0_2 l0_3)))
end
theorem hanaperref05_rest.mono_l : ∀ k, (∀ y0 y1 y2 y3 y4 y5, LeO (hanaperref05_rest.f k y0 y1 y2 y3 y4 y5) (hanaperref05_rest.f (k + 1) y0 y1 y2 y3 y4 y5)) ∧ (∀ y0 y1 y2 y3 y4 y5 y6, LeO (hanaperref05_rest.j0 k y0 y1 y2 y3 y4 y5 y6) (hanaperref05_rest.j0 (k + 1) y0 y1 y2 y3 y4 y5 y6)) ∧ (∀ y0 y1 y2 y3 y4 y5 y6, LeO (hanaperref05_rest.l0 k y0 y1 y2 y3 y4 y5 y6) (hanaperref05_rest.l0 (k + 1) y0 y1 y2 y3 y4 y5 y6))
  | 0 => ⟨fun _ _ _ _ _ _ r h => by simp [hanaperref05_rest.f] at h, fun _ _ _ _ _ _ _ r h => by simp [hanaperref05_rest.j0] at h, fun _ _ _ _ _ _ _ r h => by simp [hanaperref05_rest.l0] at h⟩
  | k + 1 => by
    obtain ⟨ih0, ih1, ih2⟩ := hanaperref05_rest.mono_l k
    refine ⟨?_, ?_, ?_⟩
    · intro y0 y1 y2 y3 y4 y5
      unfold hanaperref05_rest.f
      repeat' first
      | (with_reducible exact ih0 _ _ _ _ _ _)
      | (with_reducible exact ih1 _ _ _ _ _ _ _)
      | (with_reducible exact ih2 _ _ _ _ _ _ _)
      | (with_reducible exact LeO.refl _)
      | (with_reducible exact LeO.none _)
      | (with_reducible refine LeO.ite ?_ ?_)
      | (with_reducible refine LeO.bind ?_ (fun _ => ?_))
      | exact ih0 _ _ _ _ _ _
      | exact ih1 _ _ _ _ _ _ _
      | exact ih2 _ _ _ _ _ _ _
      | exact LeO.none _
      | refine LeO.ite ?_ ?_
      | refine LeO.bind ?_ (fun _ => ?_)
    · intro y0 y1 y2 y3 y4 y5 y6
      unfold hanaperref05_rest.j0
      repeat' first
      | (with_reducible exact ih0 _ _ _ _ _ _)
      | (with_reducible exact ih1 _ _ _ _ _ _ _)
      | (with_reducible exact ih2 _ _ _ _ _ _ _)
      | (with_reducible exact LeO.refl _)
      | (with_reducible exact LeO.none _)
      | (with_reducible refine LeO.ite ?_ ?_)
      | (with_reducible refine LeO.bind ?_ (fun _ => ?_))
      | exact ih0 _ _ _ _ _ _
      | exact ih1 _ _ _ _ _ _ _
      | exact ih2 _ _ _ _ _ _ _
      | exact LeO.none _
      | refine LeO.ite ?_ ?_
      | refine LeO.bind ?_ (fun _ => ?_)
    · intro y0 y1 y2 y3 y4 y5 y6
      unfold hanaperref05_rest.l0
      repeat' first
      | (with_reducible exact ih0 _ _ _ _ _ _)
      | (with_reducible exact ih1 _ _ _ _ _ _ _)
      | (with_reducible exact ih2 _ _ _ _ _ _ _)
      | (with_reducible exact LeO.refl _)
      | (with_reducible exact LeO.none _)
      | (with_reducible refine LeO.ite ?_ ?_)
      | (with_reducible refine LeO.bind ?_ (fun _ => ?_))
      | exact ih0 _ _ _ _ _ _
      | exact ih1 _ _ _ _ _ _ _
      | exact ih2 _ _ _ _ _ _ _
      | exact LeO.none _
      | refine LeO.ite ?_ ?_
      | refine LeO.bind ?_ (fun _ => ?_)
theorem hanaperref05_rest.mono : ∀ a0 a1 a2 a3 a4 a5 k, LeO (hanaperref05_rest.f k a0 a1 a2 a3 a4 a5) (hanaperref05_rest.f (k + 1) a0 a1 a2 a3 a4 a5) := by
  intro a0 a1 a2 a3 a4 a5 k
  obtain ⟨ih0, ih1, ih2⟩ := hanaperref05_rest.mono_l k
  exact ih0 a0 a1 a2 a3 a4 a5
set_option maxHeartbeats 8000000 in
set_option maxRecDepth 100000 in
theorem hanaperref05_rest.calls (k : Nat) : ∀ (a0_0 : Int) (a0_1 : Int) (A0_2 : Option Addr) (c0_2 : Nat) (l0_2 : List Int) (A0_3 : Option Addr) (c0_3 : Nat) (l0_3 : List (S26)) (a1 : Int) (a2 : Int) (r : Int) (w : World) (hr0_2 : Kd.C (Kd.int .u8) w A0_2 l0_2.length l0_2) (hc0_2 : l0_2.length ≤ c0_2) (hr0_3 : Kd.C k26 w A0_3 l0_3.length l0_3) (hc0_3 : l0_3.length ≤ c0_3) (h : hanaperref05_rest.f k a0_0 a0_1 l0_2 l0_3 a1 a2 = some r),
    Calls Try.prog 40 #[.agg #[.int .i64 a0_0, .int .u64 a0_1, .slice A0_2 l0_2.length c0_2, .slice A0_3 l0_3.length c0_3], .int .i64 a1, .int .i64 a2] w fun e w' => e = .returned (.int .i64 r) ∧ Below w.heap.size w w' := by
  induction k using Nat.strongRecOn with
  | _ k ih =>
  intro a0_0 a0_1 A0_2 c0_2 l0_2 A0_3 c0_3 l0_3 a1 a2 r w hr0_2 hc0_2 hr0_3 hc0_3 h
  cases k with
  | zero => exact absurd h (by simp [hanaperref05_rest.f])
  | succ k =>
  simp only [hanaperref05_rest.f] at h
  have hu26 := Try.underlying26
  have HR0_2 := Aside0.mk hr0_2
  have HC0_2 := Aside0.mk hc0_2
  clear hr0_2 hc0_2
  have HR0_3 := Aside0.mk hr0_3
  have HC0_3 := Aside0.mk hc0_3
  clear hr0_3 hc0_3
  have HB := Aside0.mk (Below.refl w.heap.size w)
  have H : (if a1 < 1 then (hanaperref05_rest.j0 k a1 a2 true a0_0 a0_1 l0_2 l0_3) else (if a2 < 1 then (hanaperref05_rest.j0 k a1 a2 true a0_0 a0_1 l0_2 l0_3) else (if (l0_3.length : Int) > a1 then (hanaperref05_rest.j0 k a1 a2 true a0_0 a0_1 l0_2 l0_3) else (hanaperref05_rest.j0 k a1 a2 (decide ((l0_2.length : Int) > 500)) a0_0 a0_1 l0_2 l0_3)))) = some r := h
  clear h
  have HC4 := Aside0.mk H
  clear H
  go_enter Try.func40, Try.ntmps40
  go_upto_region 1 with (first | ((with_reducible refine gate_dst (N := 3) rfl ?_); (try (refine gate_guard (by rfl) ?_; dsimp only)); refine box_event ?hg (N := 3) ?hd (cs := #[.int .i64 a0_0, .int .u64 a0_1, .slice A0_2 l0_2.length c0_2, .slice A0_3 l0_3.length c0_3]) (t := 26) ?hr ?_; (case hd => rfl); (case hg => rfl); (case hr => first | (go_simp; done) | (go_simp; rfl)); intro gb101 hg w5 hbox hb; have n0_ := Aside0.mk (below_step (by repeat (first | (with_reducible first | exact HB.out | apply below_alloc | apply pw_below_drewN | apply below_drew1) | exact HB.out)) hb); have n1_ := Aside0.mk (hbox); have n2_ := Aside0.mk ((by rw [hg]; exact (below_size (by repeat (first | (with_reducible first | exact HB.out | apply below_alloc | apply pw_below_drewN | apply below_drew1) | exact HB.out))) : w.heap.size ≤ gb101)); have n3_ := Aside0.mk ((by rw [hg]; exact (below_size (by repeat (first | (with_reducible first | exact HB.out | apply below_alloc | apply pw_below_drewN | apply below_drew1) | exact HB.out))) : w.heap.size ≤ gb101)); clear HB; have HB := n0_; have BK101 := n1_; have GW101 := n2_; have GE101 := n3_; clear n0_ n1_ n2_ n3_; clear hb hbox hg))
  (try simp only [Act.put, List.setIfInBounds_toArray, List.set_cons_zero, List.set_cons_succ])
  go_cut [26] (fun v26 wc => ∃ (kq : Nat) (x26_3 : Bool), v26 = .bool x26_3 ∧ Aside0 (hanaperref05_rest.j0 kq a1 a2 x26_3 a0_0 a0_1 l0_2 l0_3 = some r) ∧ Aside0 (kq ≤ k) ∧ Aside0 (wc.heap[gb101]? = some (.cells #[.int .i64 a0_0, .int .u64 a0_1, (.slice A0_2 l0_2.length c0_2), (.slice A0_3 l0_3.length c0_3)] 26 (0, 0))) ∧ Aside0 (Below w.heap.size w wc))
  case first =>
    have H := HC4.out
    clear HC4
    by_cases c6 : a1 < 1
    · rw [if_pos c6] at H
      have c6b0 : decide (a1 < 1) = true := decide_eq_true c6
      clear c6
      (first | rw [c6b0] | (simp only [i64_w, i32_w]; rw [c6b0]) | skip)
      have H' := Aside0.mk H
      clear H
      go_wp2
      go_meet
      case rel => exact ⟨_, (true), (by first | rfl | (simp; done) | (simp [*]; done)), H', ⟨by first | omega | exact Nat.le_refl _⟩, ⟨by (with_reducible repeat (first | refine blk_drewN ?_ _ | refine blk_drew ?_ | refine blk_alloc ?_ _)); exact BK101.out⟩, ⟨by repeat (first | (with_reducible first | exact HB.out | apply below_alloc | apply pw_below_drewN | apply below_drew1 | refine below_set ?_ GE101.out) | exact HB.out)⟩⟩
    · rw [if_neg c6] at H
      have c6b0 : decide (a1 < 1) = false := decide_eq_false c6
      clear c6
      (first | rw [c6b0] | (simp only [i64_w, i32_w]; rw [c6b0]) | skip)
      by_cases c7 : a2 < 1
      · rw [if_pos c7] at H
        have c7b0 : decide (a2 < 1) = true := decide_eq_true c7
        clear c7
        have H' := Aside0.mk H
        clear H
        go_wp2
        go_meet
        case rel => exact ⟨_, (true), (by first | rfl | (simp; done) | (simp [*]; done)), H', ⟨by first | omega | exact Nat.le_refl _⟩, ⟨by (with_reducible repeat (first | refine blk_drewN ?_ _ | refine blk_drew ?_ | refine blk_alloc ?_ _)); exact BK101.out⟩, ⟨by repeat (first | (with_reducible first | exact HB.out | apply below_alloc | apply pw_below_drewN | apply below_drew1 | refine below_set ?_ GE101.out) | exact HB.out)⟩⟩
      · rw [if_neg c7] at H
        have c7b0 : decide (a2 < 1) = false := decide_eq_false c7
        clear c7
        by_cases c8 : (l0_3.length : Int) > a1
        · rw [if_pos c8] at H
          have c8b0 : decide (a1 < (l0_3.length : Int)) = true := decide_eq_true c8
          clear c8
          have H' := Aside0.mk H
          clear H
          have hcz9_0 : w5.cell? ⟨gb101, 0, none⟩ = some (.int .i64 a0_0) := (blk_cell BK101.out 0).trans rfl
          have hcz9_1 : w5.cell? ⟨gb101, 1, none⟩ = some (.int .u64 a0_1) := (blk_cell BK101.out 1).trans rfl
          have hcz9_2 : w5.cell? ⟨gb101, 2, none⟩ = some (.slice A0_2 l0_2.length c0_2) := (blk_cell BK101.out 2).trans rfl
          have hcz9_3 : w5.cell? ⟨gb101, 3, none⟩ = some (.slice A0_3 l0_3.length c0_3) := (blk_cell BK101.out 3).trans rfl
          have hfz9_0 := blk_frozen BK101.out 0
          have hfz9_1 := blk_frozen BK101.out 1
          have hfz9_2 := blk_frozen BK101.out 2
          have hfz9_3 := blk_frozen BK101.out 3
          go_wp2
          go_meet
          case rel => exact ⟨_, (true), (by first | rfl | (simp; done) | (simp [*]; done)), H', ⟨by first | omega | exact Nat.le_refl _⟩, ⟨by (with_reducible repeat (first | refine blk_drewN ?_ _ | refine blk_drew ?_ | refine blk_alloc ?_ _)); exact BK101.out⟩, ⟨by repeat (first | (with_reducible first | exact HB.out | apply below_alloc | apply pw_below_drewN | apply below_drew1 | refine below_set ?_ GE101.out) | exact HB.out)⟩⟩
        · rw [if_neg c8] at H
          have c8b0 : decide (a1 < (l0_3.length : Int)) = false := decide_eq_false c8
          clear c8
          have H' := Aside0.mk H
          clear H
          have hcz10_0 : w5.cell? ⟨gb101, 0, none⟩ = some (.int .i64 a0_0) := (blk_cell BK101.out 0).trans rfl
          have hcz10_1 : w5.cell? ⟨gb101, 1, none⟩ = some (.int .u64 a0_1) := (blk_cell BK101.out 1).trans rfl
          have hcz10_2 : w5.cell? ⟨gb101, 2, none⟩ = some (.slice A0_2 l0_2.length c0_2) := (blk_cell BK101.out 2).trans rfl
          have hcz10_3 : w5.cell? ⟨gb101, 3, none⟩ = some (.slice A0_3 l0_3.length c0_3) := (blk_cell BK101.out 3).trans rfl
          have hfz10_0 := blk_frozen BK101.out 0
          have hfz10_1 := blk_frozen BK101.out 1
          have hfz10_2 := blk_frozen BK101.out 2
          have hfz10_3 := blk_frozen BK101.out 3
          go_wp2
          go_meet
          case rel => exact ⟨_, (decide ((l0_2.length : Int) > 500)), (by first | rfl | (simp; done) | (simp [*]; done)), H', ⟨by first | omega | exact Nat.le_refl _⟩, ⟨by (with_reducible repeat (first | refine blk_drewN ?_ _ | refine blk_drew ?_ | refine blk_alloc ?_ _)); exact BK101.out⟩, ⟨by repeat (first | (with_reducible first | exact HB.out | apply below_alloc | apply pw_below_drewN | apply below_drew1 | refine below_set ?_ GE101.out) | exact HB.out)⟩⟩
  case rest =>
    clear HC4
    try clear p2
    try clear c4
    try clear c6
    try clear c6b0
    try clear c7
    try clear c7b0
    try clear c8
    try clear c8b0
    try clear hcz10_0
    try clear hcz10_1
    try clear hcz10_2
    try clear hcz10_3
    try clear hcz9_0
    try clear hcz9_1
    try clear hcz9_2
    try clear hcz9_3
    try clear hfz10_0
    try clear hfz10_1
    try clear hfz10_2
    try clear hfz10_3
    try clear hfz9_0
    try clear hfz9_1
    try clear hfz9_2
    try clear hfz9_3
    obtain ⟨kq, x26_3, rfl, HA, HJ3, BK101, HB⟩ := hcut
    cases kq with
    | zero => exact absurd HA.out (by simp [hanaperref05_rest.j0])
    | succ kj3 =>
      have H := HA.out
      clear HA
      simp only [hanaperref05_rest.j0] at H
      by_cases c11 : x26_3 = true
      · subst c11
        have H1 : (some (-1)) = some r := by rw [if_pos rfl] at H; exact H
        clear H
        have H := H1
        clear H1
        obtain rfl := Option.some.inj H
        go_wp2
        go_ret
        exact ⟨by first | rfl | (simp [errW_none, errW_some] <;> rfl) | (simp [*, errW_none, errW_some] <;> rfl), by repeat (first | (with_reducible first | exact HB.out | apply below_alloc | apply pw_below_drewN | apply below_drew1 | refine below_set ?_ GE101.out) | exact HB.out)⟩
      · replace c11 := Bool.eq_false_iff.mpr c11
        subst c11
        have H1 : (hanaperref05_rest.l0 kj3 (wrap64 (a1 - 1)) a2 0 a0_0 a0_1 l0_2 l0_3) = some r := by rw [if_neg (show ¬ (false = true) by decide)] at H; exact H
        clear H
        have H := H1
        clear H1
        have H' := Aside0.mk H
        clear H
        go_wp2
        go_loopg [1, 7] kj3 (fun kq v1 v7 w' => ∃ (x1_2 : Int) (x7_2 : Int), v1 = .int .i64 x1_2 ∧ v7 = .int .i64 x7_2 ∧ Aside0 (hanaperref05_rest.l0 kq x1_2 a2 x7_2 a0_0 a0_1 l0_2 l0_3 = some r) ∧ Aside0 (kq ≤ kj3) ∧ Aside0 (w'.heap[gb101]? = some (.cells #[.int .i64 a0_0, .int .u64 a0_1, (.slice A0_2 l0_2.length c0_2), (.slice A0_3 l0_3.length c0_3)] 26 (0, 0))) ∧ Aside0 (Below w.heap.size w w'))
        case atStart => exact ⟨(wrap64 (a1 - 1)), (0), (by first | rfl | (simp; done) | (simp [*]; done)), (by first | rfl | (simp; done) | (simp [*]; done)), H', ⟨Nat.le_refl _⟩, ⟨by (with_reducible repeat (first | refine blk_drewN ?_ _ | refine blk_drew ?_ | refine blk_alloc ?_ _)); exact BK101.out⟩, ⟨by repeat (first | (with_reducible first | exact HB.out | apply below_alloc | apply pw_below_drewN | apply below_drew1 | refine below_set ?_ GE101.out) | exact HB.out)⟩⟩
        case round =>
          clear H'
          try clear c1
          try clear p2
          try clear c4
          try clear c6
          try clear c6b0
          try clear p6
          try clear c7
          try clear c7b0
          try clear c8
          try clear c8b0
          try clear c11
          try clear hcz10_0
          try clear hcz10_1
          try clear hcz10_2
          try clear hcz10_3
          try clear hcz9_0
          try clear hcz9_1
          try clear hcz9_2
          try clear hcz9_3
          try clear hfz10_0
          try clear hfz10_1
          try clear hfz10_2
          try clear hfz10_3
          try clear hfz9_0
          try clear hfz9_1
          try clear hfz9_2
          try clear hfz9_3
          try clear p2
          obtain ⟨x1_2, x7_2, rfl, rfl, HA, HK2, BK101, HB⟩ := hrel
          cases gk with
          | zero => exact absurd HA.out (by simp [hanaperref05_rest.l0])
          | succ k2 =>
            have H := HA.out
            clear HA
            simp only [hanaperref05_rest.l0] at H
            by_cases c12 : x7_2 < (l0_3.length : Int)
            · rw [if_pos c12] at H
              have c12b0 : decide (x7_2 < (l0_3.length : Int)) = true := decide_eq_true c12
              clear c12
              by_cases c13 : x1_2 ≥ 0
              · rw [if_pos c13] at H
                have c13b0 : decide (0 ≤ x1_2) = true := decide_eq_true c13
                clear c13
                by_cases c14 : 0 ≤ x7_2
                · rw [if_pos c14] at H
                  have c14b0 : decide (0 ≤ x7_2) = true := decide_eq_true c14
                  clear c14
                  replace H := Option.bind_eq_some_iff.mp H
                  obtain ⟨t103, A150, H⟩ := H
                  replace H : (hanaperref05_rest.l0 k2 t103 a2 (wrap64 (x7_2 + 1)) a0_0 a0_1 l0_2 l0_3) = some r := H
                  have A15 := Aside0.mk A150
                  clear A150
                  have H' := Aside0.mk H
                  clear H
                  have hcz16_0 : wr.cell? ⟨gb101, 0, none⟩ = some (.int .i64 a0_0) := (blk_cell BK101.out 0).trans rfl
                  have hcz16_1 : wr.cell? ⟨gb101, 1, none⟩ = some (.int .u64 a0_1) := (blk_cell BK101.out 1).trans rfl
                  have hcz16_2 : wr.cell? ⟨gb101, 2, none⟩ = some (.slice A0_2 l0_2.length c0_2) := (blk_cell BK101.out 2).trans rfl
                  have hcz16_3 : wr.cell? ⟨gb101, 3, none⟩ = some (.slice A0_3 l0_3.length c0_3) := (blk_cell BK101.out 3).trans rfl
                  have hfz16_0 := blk_frozen BK101.out 0
                  have hfz16_1 := blk_frozen BK101.out 1
                  have hfz16_2 := blk_frozen BK101.out 2
                  have hfz16_3 := blk_frozen BK101.out 3
                  have p102 : 0 ≤ (x7_2 : Int) := of_decide_eq_true (by first | (with_reducible assumption) | assumption)
                  have q102 : x7_2 < (l0_3.length : Int) := of_decide_eq_true (by first | (with_reducible assumption) | assumption)
                  obtain ⟨ad102, A102_2, c102_2, A102_3, c102_3, e102, hx102_0, hx102_1, hx102_2, hx102_3, hl102_2, hi102_2, hl102_3, hi102_3⟩ := at_T26 HR0_3.out x7_2 p102 q102
                  cases e102
                  replace hx102_0 := (HB.out.cell (World.block_lt_of_cell? w _ hx102_0)).trans hx102_0
                  replace hx102_1 := (HB.out.cell (World.block_lt_of_cell? w _ hx102_1)).trans hx102_1
                  replace hx102_2 := (HB.out.cell (World.block_lt_of_cell? w _ hx102_2)).trans hx102_2
                  replace hx102_3 := (HB.out.cell (World.block_lt_of_cell? w _ hx102_3)).trans hx102_3
                  have HR102_2 := Aside0.mk hi102_2
                  have HC102_2 := Aside0.mk hl102_2
                  clear hi102_2 hl102_2
                  have HR102_3 := Aside0.mk hi102_3
                  have HC102_3 := Aside0.mk hl102_3
                  clear hi102_3 hl102_3
                  replace p102 := eq_true p102
                  replace q102 := eq_true q102
                  go_wp2_with (first | ((with_reducible refine gate_callee (f := 40) rfl ?_); refine goesL_ (some 48) rfl rfl Try.func40 (by kernel_rfl) rfl #[.agg #[.int .i64 ((rd_T26 l0_3 x7_2).f0), .int .u64 ((rd_T26 l0_3 x7_2).f1), .slice A102_2 ((rd_T26 l0_3 x7_2).f2).length c102_2, .slice A102_3 ((rd_T26 l0_3 x7_2).f3).length c102_3], .int .i64 x1_2, .int .i64 (wrap64 (a2 - 1))] rfl (by (try simp only [List.map_toArray, List.map_cons, List.map_nil]); first | done | rfl | (simp only [List.length_drop, List.length_take]; rfl)) ?_; (with_reducible refine (ih k2 (by have := HJ3.out; have := HK2.out; omega) ((rd_T26 l0_3 x7_2).f0) ((rd_T26 l0_3 x7_2).f1) _ _ ((rd_T26 l0_3 x7_2).f2) _ _ ((rd_T26 l0_3 x7_2).f3) x1_2 (wrap64 (a2 - 1)) t103 _ ?side1 ?side2 ?side3 ?side4 A15.out).mono ?_); (case side1 => repeat (first | exact (Kd.C_below HR102_2.out HB.out) | (with_reducible refine Kd.C_alloc ?_ _) | (with_reducible refine Kd.C_drewN ?_ _) | (with_reducible refine Kd.C_drew ?_))); (case side2 => exact HC102_2.out); (case side3 => repeat (first | exact (Kd.C_below HR102_3.out HB.out) | (with_reducible refine Kd.C_alloc ?_ _) | (with_reducible refine Kd.C_drewN ?_ _) | (with_reducible refine Kd.C_drew ?_))); (case side4 => exact HC102_3.out); rintro e w17 ⟨rfl, hb⟩; refine ⟨_, rfl, ?_⟩; have n0_ := Aside0.mk (blk_below (g := gb101) (o := .cells #[.int .i64 a0_0, .int .u64 a0_1, .slice A0_2 l0_2.length c0_2, .slice (some ad102) l0_3.length c0_3] 26 (0, 0)) (by (with_reducible repeat (first | refine blk_drewN ?_ _ | refine blk_drew ?_ | refine blk_alloc ?_ _)); exact BK101.out) hb); have n1_ := Aside0.mk (below_step (by repeat (first | (with_reducible first | exact HB.out | apply below_alloc | apply pw_below_drewN | apply below_drew1 | refine below_set ?_ GE101.out) | exact HB.out)) hb); clear BK101; clear HB; have BK101 := n0_; have HB := n1_; clear n0_ n1_; (try clear hb); (try clear hb2); (try clear hk); (try clear hi)))
                  go_roundg k2
                  case measure => have := HJ3.out; have := HK2.out; omega
                  case rel => exact ⟨(t103), (wrap64 (x7_2 + 1)), (by first | rfl | (simp; done) | (simp [*]; done)), (by first | rfl | (simp; done) | (simp [*]; done)), H', ⟨by have := HJ3.out; have := HK2.out; omega⟩, ⟨by (with_reducible repeat (first | refine blk_drewN ?_ _ | refine blk_drew ?_ | refine blk_alloc ?_ _)); exact BK101.out⟩, ⟨by repeat (first | (with_reducible first | exact HB.out | apply below_alloc | apply pw_below_drewN | apply below_drew1 | refine below_set ?_ GE101.out) | exact HB.out)⟩⟩
                · rw [if_neg c14] at H
                  exact absurd H (by simp)
              · rw [if_neg c13] at H
                have c13b0 : decide (0 ≤ x1_2) = false := decide_eq_false c13
                clear c13
                obtain rfl := Option.some.inj H
                have hcz18_0 : wr.cell? ⟨gb101, 0, none⟩ = some (.int .i64 a0_0) := (blk_cell BK101.out 0).trans rfl
                have hcz18_1 : wr.cell? ⟨gb101, 1, none⟩ = some (.int .u64 a0_1) := (blk_cell BK101.out 1).trans rfl
                have hcz18_2 : wr.cell? ⟨gb101, 2, none⟩ = some (.slice A0_2 l0_2.length c0_2) := (blk_cell BK101.out 2).trans rfl
                have hcz18_3 : wr.cell? ⟨gb101, 3, none⟩ = some (.slice A0_3 l0_3.length c0_3) := (blk_cell BK101.out 3).trans rfl
                have hfz18_0 := blk_frozen BK101.out 0
                have hfz18_1 := blk_frozen BK101.out 1
                have hfz18_2 := blk_frozen BK101.out 2
                have hfz18_3 := blk_frozen BK101.out 3
                go_wp2
                go_ret
                exact ⟨by first | rfl | (simp [errW_none, errW_some] <;> rfl) | (simp [*, errW_none, errW_some] <;> rfl), by repeat (first | (with_reducible first | exact HB.out | apply below_alloc | apply pw_below_drewN | apply below_drew1 | refine below_set ?_ GE101.out) | exact HB.out)⟩
            · rw [if_neg c12] at H
              have c12b0 : decide (x7_2 < (l0_3.length : Int)) = false := decide_eq_false c12
              clear c12
              obtain rfl := Option.some.inj H
              have hcz19_0 : wr.cell? ⟨gb101, 0, none⟩ = some (.int .i64 a0_0) := (blk_cell BK101.out 0).trans rfl
              have hcz19_1 : wr.cell? ⟨gb101, 1, none⟩ = some (.int .u64 a0_1) := (blk_cell BK101.out 1).trans rfl
              have hcz19_2 : wr.cell? ⟨gb101, 2, none⟩ = some (.slice A0_2 l0_2.length c0_2) := (blk_cell BK101.out 2).trans rfl
              have hcz19_3 : wr.cell? ⟨gb101, 3, none⟩ = some (.slice A0_3 l0_3.length c0_3) := (blk_cell BK101.out 3).trans rfl
              have hfz19_0 := blk_frozen BK101.out 0
              have hfz19_1 := blk_frozen BK101.out 1
              have hfz19_2 := blk_frozen BK101.out 2
              have hfz19_3 := blk_frozen BK101.out 3
              go_wp2
              go_ret
              exact ⟨by first | rfl | (simp [errW_none, errW_some] <;> rfl) | (simp [*, errW_none, errW_some] <;> rfl), by repeat (first | (with_reducible first | exact HB.out | apply below_alloc | apply pw_below_drewN | apply below_drew1 | refine below_set ?_ GE101.out) | exact HB.out)⟩

end Go.Proofs.Ytgohmganimamcaa.PZ
-- printed for this claim by a program (pall.sh)
-- mended by fixpz.py
namespace Go.Proofs.Ytgohmganimamcaa.PZ
open Go.RowKit Go.Proofs.YtgohmganimamcaaW.PrintWords Go.Proofs.YtgohmganimamcaaW.PrintLast Go.Proofs.YtgohmganimamcaaW.PrintMore
attribute [local go_sem] max2_int min2_int max_two min_two max_three min_three max_four min_four   -- for this text's walks alone
set_option linter.unusedVariables false
set_option linter.unusedSimpArgs false

/-! ### hanaperref05_Small: function 10 -/
def hanaperref05_Small.f (k : Nat) (a0_0 : Int) (a0_1 : Int) (l0_2 : List Int) (l0_3 : List (S26)) (a1 : Int) : Option (Bool) := (hanaperref05_rest.f k a0_0 a0_1 l0_2 l0_3 a1 40).bind fun t102 => (some (decide (t102 ≥ 0)))
theorem hanaperref05_Small.mono : ∀ a0 a1 a2 a3 a4 k, LeO (hanaperref05_Small.f k a0 a1 a2 a3 a4) (hanaperref05_Small.f (k + 1) a0 a1 a2 a3 a4) := by
  intro a0 a1 a2 a3 a4 k
  unfold hanaperref05_Small.f
  repeat' first
      | (with_reducible exact hanaperref05_rest.mono _ _ _ _ _ _ _)
      | (with_reducible exact LeO.refl _)
      | (with_reducible exact LeO.none _)
      | (with_reducible refine LeO.ite ?_ ?_)
      | (with_reducible refine LeO.bind ?_ (fun _ => ?_))
      | exact hanaperref05_rest.mono _ _ _ _ _ _ _
      | exact LeO.none _
      | refine LeO.ite ?_ ?_
      | refine LeO.bind ?_ (fun _ => ?_)
set_option maxHeartbeats 8000000 in
set_option maxRecDepth 100000 in
theorem hanaperref05_Small.calls (k : Nat) (a0_0 : Int) (a0_1 : Int) (A0_2 : Option Addr) (c0_2 : Nat) (l0_2 : List Int) (A0_3 : Option Addr) (c0_3 : Nat) (l0_3 : List (S26)) (a1 : Int) (r : Bool) (w : World) (hr0_2 : Kd.C (Kd.int .u8) w A0_2 l0_2.length l0_2) (hc0_2 : l0_2.length ≤ c0_2) (hr0_3 : Kd.C k26 w A0_3 l0_3.length l0_3) (hc0_3 : l0_3.length ≤ c0_3) (h : hanaperref05_Small.f k a0_0 a0_1 l0_2 l0_3 a1 = some r) :
    Calls Try.prog 10 #[.agg #[.int .i64 a0_0, .int .u64 a0_1, .slice A0_2 l0_2.length c0_2, .slice A0_3 l0_3.length c0_3], .int .i64 a1] w fun e w' => e = .returned (.bool r) ∧ Below w.heap.size w w' := by
  have hu26 := Try.underlying26
  have HR0_2 := Aside0.mk hr0_2
  have HC0_2 := Aside0.mk hc0_2
  clear hr0_2 hc0_2
  have HR0_3 := Aside0.mk hr0_3
  have HC0_3 := Aside0.mk hc0_3
  clear hr0_3 hc0_3
  have HB := Aside0.mk (Below.refl w.heap.size w)
  have H : ((hanaperref05_rest.f k a0_0 a0_1 l0_2 l0_3 a1 40).bind fun t102 => (some (decide (t102 ≥ 0)))) = some r := h
  clear h
  replace H := Option.bind_eq_some_iff.mp H
  obtain ⟨t102, A30, H⟩ := H
  replace H : (some (decide (t102 ≥ 0))) = some r := H
  have A3 := Aside0.mk A30
  clear A30
  obtain rfl := Option.some.inj H
  go_enter Try.func10, Try.ntmps10
  go_wp2_with (first | ((with_reducible refine gate_dst (N := 2) rfl ?_); refine box_event ?hg (N := 2) ?hd (cs := #[.int .i64 a0_0, .int .u64 a0_1, .slice A0_2 l0_2.length c0_2, .slice A0_3 l0_3.length c0_3]) (t := 26) ?hr ?_; (case hd => rfl); (case hg => rfl); (case hr => first | (go_simp; done) | (go_simp; rfl)); intro gb101 hg w4 hbox hb; have n0_ := Aside0.mk (below_step (by repeat (first | (with_reducible first | exact HB.out | apply below_alloc | apply pw_below_drewN | apply below_drew1) | exact HB.out)) hb); have n1_ := Aside0.mk (hbox); have n2_ := Aside0.mk ((by rw [hg]; exact (below_size (by repeat (first | (with_reducible first | exact HB.out | apply below_alloc | apply pw_below_drewN | apply below_drew1) | exact HB.out))) : w.heap.size ≤ gb101)); have n3_ := Aside0.mk ((by rw [hg]; exact (below_size (by repeat (first | (with_reducible first | exact HB.out | apply below_alloc | apply pw_below_drewN | apply below_drew1) | exact HB.out))) : w.heap.size ≤ gb101)); clear HB; have HB := n0_; have BK101 := n1_; have GW101 := n2_; have GE101 := n3_; clear n0_ n1_ n2_ n3_; clear hb hbox hg; have hcz5_0 : w4.cell? ⟨gb101, 0, none⟩ = some (.int .i64 a0_0) := (blk_cell BK101.out 0).trans rfl; have hcz5_1 : w4.cell? ⟨gb101, 1, none⟩ = some (.int .u64 a0_1) := (blk_cell BK101.out 1).trans rfl; have hcz5_2 : w4.cell? ⟨gb101, 2, none⟩ = some (.slice A0_2 l0_2.length c0_2) := (blk_cell BK101.out 2).trans rfl; have hcz5_3 : w4.cell? ⟨gb101, 3, none⟩ = some (.slice A0_3 l0_3.length c0_3) := (blk_cell BK101.out 3).trans rfl; have hfz5_0 := blk_frozen BK101.out 0; have hfz5_1 := blk_frozen BK101.out 1; have hfz5_2 := blk_frozen BK101.out 2; have hfz5_3 := blk_frozen BK101.out 3) | ((with_reducible refine gate_callee (f := 40) rfl ?_); refine goesL_ (some 7) rfl rfl Try.func40 (by kernel_rfl) rfl #[.agg #[.int .i64 a0_0, .int .u64 a0_1, .slice A0_2 l0_2.length c0_2, .slice A0_3 l0_3.length c0_3], .int .i64 a1, .int .i64 40] rfl (by (try simp only [List.map_toArray, List.map_cons, List.map_nil]); first | done | rfl | (simp only [List.length_drop, List.length_take]; rfl)) ?_; (with_reducible refine (hanaperref05_rest.calls k a0_0 a0_1 _ _ l0_2 _ _ l0_3 a1 40 t102 _ ?side1 ?side2 ?side3 ?side4 A3.out).mono ?_); (case side1 => repeat (first | exact (Kd.C_below HR0_2.out HB.out) | (with_reducible refine Kd.C_alloc ?_ _) | (with_reducible refine Kd.C_drewN ?_ _) | (with_reducible refine Kd.C_drew ?_))); (case side2 => exact HC0_2.out); (case side3 => repeat (first | exact (Kd.C_below HR0_3.out HB.out) | (with_reducible refine Kd.C_alloc ?_ _) | (with_reducible refine Kd.C_drewN ?_ _) | (with_reducible refine Kd.C_drew ?_))); (case side4 => exact HC0_3.out); rintro e w6 ⟨rfl, hb⟩; refine ⟨_, rfl, ?_⟩; have n0_ := Aside0.mk (blk_below (g := gb101) (o := .cells #[.int .i64 a0_0, .int .u64 a0_1, .slice A0_2 l0_2.length c0_2, .slice A0_3 l0_3.length c0_3] 26 (0, 0)) (by (with_reducible repeat (first | refine blk_drewN ?_ _ | refine blk_drew ?_ | refine blk_alloc ?_ _)); exact BK101.out) hb); have n1_ := Aside0.mk (below_step (by repeat (first | (with_reducible first | exact HB.out | apply below_alloc | apply pw_below_drewN | apply below_drew1 | refine below_set ?_ GE101.out) | exact HB.out)) hb); clear BK101; clear HB; have BK101 := n0_; have HB := n1_; clear n0_ n1_; (try clear hb); (try clear hb2); (try clear hk); (try clear hi)))
  go_ret
  exact ⟨by first | rfl | (simp [errW_none, errW_some] <;> rfl) | (simp [*, errW_none, errW_some] <;> rfl), by repeat (first | (with_reducible first | exact HB.out | apply below_alloc | apply pw_below_drewN | apply below_drew1 | refine below_set ?_ GE101.out) | exact HB.out)⟩

end Go.Proofs.Ytgohmganimamcaa.PZ
/- What the laws of layer 5 share. -/
namespace Go.Proofs.Ytgohmganimamcaa.Term
set_option linter.unusedVariables false
set_option linter.unusedSimpArgs false
open Go.RowKit Go.Proofs.Ytgohmganimamcaa.Base Go.Proofs.Ytgohmganimamcaa.TlvPlain Go.Proofs.Ytgohmganimamcaa.Lo Go.Proofs.Ytgohmganimamcaa.RdPlain Go.Proofs.Ytgohmganimamcaa.Aid Go.Proofs.Ytgohmganimamcaa.PZ Go.Proofs.YtgohmganimamcaaW.PrintWords Go.Proofs.YtgohmganimamcaaW.PrintLast Go.Proofs.YtgohmganimamcaaW.PrintMore
theorem rest_ev : ∀ (d : Nat), d ≤ 40 → ∀ (x : ST) (m : Int), m ≤ 60 → ∃ r, -1 ≤ r ∧ r ≤ 60 ∧ Ev (fun k => hanaperref05_rest.f k x.f0 x.f1 x.f2 x.f3 m (d : Int)) r := by
  intro d
  induction d with
  | zero =>
    intro _ x m hm
    have bad : Ev (fun k => hanaperref05_rest.j0 k m ((0 : Nat) : Int) true x.f0 x.f1 x.f2 x.f3) (-1) := Ev.step (fun k => by simp only [hanaperref05_rest.j0]; rfl) (pos (show true = true from rfl) (now rfl))
    refine ⟨-1, by omega, by omega, Ev.step (fun k => by simp only [hanaperref05_rest.f]; rfl) ?_⟩
    by_cases h1 : m < 1
    · exact pos h1 bad
    · exact neg h1 (pos (by omega) bad)
  | succ d ih =>
    intro hd x m hm
    have bad : Ev (fun k => hanaperref05_rest.j0 k m ((d + 1 : Nat) : Int) true x.f0 x.f1 x.f2 x.f3) (-1) := Ev.step (fun k => by simp only [hanaperref05_rest.j0]; rfl) (pos (show true = true from rfl) (now rfl))
    by_cases h1 : m < 1
    · exact ⟨-1, by omega, by omega, Ev.step (fun k => by simp only [hanaperref05_rest.f]; rfl) (pos h1 bad)⟩
    by_cases h3 : (x.f3.length : Int) > m
    · exact ⟨-1, by omega, by omega, Ev.step (fun k => by simp only [hanaperref05_rest.f]; rfl) (neg h1 (neg (by omega) (pos h3 bad)))⟩
    have hdec : wrap64 (((d + 1 : Nat) : Int) - 1) = (d : Int) := by rw [Aid.w64 (by omega) (by omega)]; omega
    have loop : ∀ (n i : Nat) (y : Int), i + n = x.f3.length → -1 ≤ y → y ≤ 60 → ∃ r, -1 ≤ r ∧ r ≤ 60 ∧ Ev (fun k => hanaperref05_rest.l0 k y ((d + 1 : Nat) : Int) (i : Int) x.f0 x.f1 x.f2 x.f3) r := by
      intro n
      induction n with
      | zero => intro i y hi hy hy2; exact ⟨y, hy, hy2, Ev.step (fun k => by simp only [hanaperref05_rest.l0]; rfl) (neg (by omega) (now rfl))⟩
      | succ n ihn =>
        intro i y hi hy hy2
        have hlt : i < x.f3.length := by omega
        by_cases hy0 : y ≥ 0
        · obtain ⟨r1, a1, b1, e1⟩ := ih (by omega) x.f3[i] y hy2
          obtain ⟨r2, a2, b2, e2⟩ := ihn (i + 1) r1 (by omega) a1 b1
          refine ⟨r2, a2, b2, Ev.step (fun k => by simp only [hanaperref05_rest.l0]; rfl) (pos (by omega) (pos hy0 (pos (by omega) ?_)))⟩
          rw [rd_at x.f3 i hlt, hdec]
          refine evBind e1 ?_
          rw [inc hlt (by omega)]
          exact e2
        · exact ⟨y, hy, hy2, Ev.step (fun k => by simp only [hanaperref05_rest.l0]; rfl) (pos (by omega) (neg hy0 (now rfl)))⟩
    by_cases h4 : (x.f2.length : Int) > 500
    · refine ⟨-1, by omega, by omega, Ev.step (fun k => by simp only [hanaperref05_rest.f]; rfl) (neg h1 (neg (by omega) (neg h3 ?_)))⟩
      rw [decide_eq_true h4]
      exact bad
    · obtain ⟨r, a, b, e⟩ := loop x.f3.length 0 (m - 1) (by omega) (by omega) (by omega)
      refine ⟨r, a, b, Ev.step (fun k => by simp only [hanaperref05_rest.f]; rfl) (neg h1 (neg (by omega) (neg h3 ?_)))⟩
      rw [decide_eq_false h4]
      refine Ev.step (fun k => by simp only [hanaperref05_rest.j0]; rfl) (neg (by decide) ?_)
      rw [Aid.w64 (by omega) (by omega)]
      exact e
theorem small_ev (x : ST) : ∃ b, Ev (fun k => hanaperref05_Small.f k x.f0 x.f1 x.f2 x.f3 60) b := by
  obtain ⟨r, _, _, e⟩ := rest_ev 40 (by omega) x 60 (by omega)
  unfold hanaperref05_Small.f
  exact ⟨_, evBind e (now rfl)⟩
theorem tput_v (x : ST) (hw : wfT x) : term_Put.f x.f0 x.f1 x.f2 x.f3 = some (putV x) := by
  obtain ⟨a, b, c, d⟩ := x
  exact if_pos ((wfB_iff ⟨a, b, c, d⟩).2 hw)
theorem putV_len (x : ST) : (putV x).1.length ≤ 400 := by
  unfold putV
  split
  · split
    · simp
    · next h => exact by dsimp only; omega
  · simp
theorem putV_may (x : ST) : (mayT 8 x = true → (putV x).2 = 0 ∨ (putV x).2 = 3) ∧ (mayT 8 x = false → putV x = ([], 1)) := by
  unfold putV
  refine ⟨fun h => ?_, fun h => ?_⟩
  · rw [if_pos h]; split <;> simp
  · rw [if_neg (by rw [h]; decide)]
end Go.Proofs.Ytgohmganimamcaa.Term
/- The walks of the document's reader. -/
namespace Go.Proofs.Ytgohmganimamcaa.Rf
open Go.Proofs.Ytgohmganimamcaa.Base Go.Proofs.Ytgohmganimamcaa.TlvPlain Go.Proofs.Ytgohmganimamcaa.Lo Go.RowKit Go.Proofs.YtgohmganimamcaaW.PrintWords Go.Proofs.YtgohmganimamcaaW.PrintLast Go.Proofs.YtgohmganimamcaaW.PrintMore

/-- A cut of bytes, and in which block it lies. -/
theorem cut2 {P : Program} (t e : TypeId) (kl : IntKind) {i : TypeInfo} (ht : P.underlying t = some (.slice e)) (hi : P.info? e = some i) (hsz : i.size = 1) (A : Option Addr) (n c m : Nat) (hm : m ≤ n) :
    ∃ A' : Option Addr, (∀ W : World, (Instr.slice t (.slice A n c) (some (.int kl (m : Int))) none none).run P W = .ok (.slice A' (n - m) (c - m)) W) ∧
      (∀ (w : World) (k : IntKind) (xs : List Int), n ≤ c → ReadsInt w k A n xs → ReadsInt w k A' (n - m) (xs.drop m)) ∧ (∀ ad', A' = some ad' → ∃ ad, A = some ad ∧ ad'.block = ad.block) := by
  refine ⟨if c = m then A else A.map (·.add m), fun W => ?_, fun w k xs hc h => h.drop_ m hm hc, fun ad' h => ?_⟩
  · have hel : P.elem t = e := by simp [Program.elem, ht]
    have hu : P.underlying t = some (.slice (P.elem t)) := by rw [hel]; exact ht
    rw [run_slice_l W t A n c hu kl (m : Int) (Int.natCast_nonneg _) (by omega), hel]
    simp [sizeOf, typeInfo, hi, hsz, sliced, Result.andThen]
  · split at h
    · exact ⟨ad', h, rfl⟩
    · obtain ⟨ad, h1, rfl⟩ := Option.map_eq_some_iff.1 h
      exact ⟨ad, h1, by unfold Addr.add; split <;> rfl⟩
/-- The document's reader at block g: the bytes that are left, and whether it failed. -/
def Rdr (w0 W : World) (g : Nat) (failed : Bool) (bs : List Int) : Prop :=
  w0.heap.size ≤ g ∧ ∃ A c, W.heap[g]? = some (.cells #[.slice A bs.length c, .bool failed] 81 (0, 0)) ∧ bs.length ≤ c ∧ Rb W A bs ∧ bs.length < 140737488355328 ∧ U8 bs ∧ ∀ ad, A = some ad → ad.block < g
theorem Rdr.lower {w0 w1 W : World} {g : Nat} {f : Bool} {bs : List Int} (h : Rdr w1 W g f bs) (hs : w0.heap.size ≤ w1.heap.size) : Rdr w0 W g f bs := ⟨Nat.le_trans hs h.1, h.2⟩
theorem cells_no_int {f : Bool} {A : Option Addr} {n c : Nat} (i : Nat) (v : Value) (h : (#[.slice A n c, Value.bool f] : Array Value)[i]? = some v) (k : Int) : v ≠ .int .u8 k := by
  match i, h with
  | 0, h => cases h; simp
  | 1, h => cases h; simp
theorem Rdr.below {w0 W W1 : World} {g : Nat} {f : Bool} {bs : List Int} (h : Rdr w0 W g f bs) (hb : Below W.heap.size W W1) : Rdr w0 W1 g f bs := by
  obtain ⟨h0, A, c, h1, h2, h3, h4⟩ := h
  exact ⟨h0, A, c, (hb.block g (blk_lt h1)).trans h1, h2, Kd.C_below h3 hb, h4⟩
/-- Where another block alone was written, in which no numbers lie. -/
theorem Rdr.keep {w0 W W1 : World} {g g' : Nat} {f : Bool} {bs : List Int} (h : Rdr w0 W g f bs) (hk : KeepBut W W1 g' none) (hne : g ≠ g') {T : Nat} {cs : Array Value} (hb : W.heap[g']? = some (.cells cs T (0, 0))) (hcs : ∀ i : Nat, ∀ v, cs[i]? = some v → ∀ n, v ≠ Value.int .u8 n) : Rdr w0 W1 g f bs := by
  obtain ⟨h0, A, c, h1, h2, h3, h4⟩ := h
  exact ⟨h0, A, c, hk.blk h1 hne (by simp), h2, reads_keep h3 hk (reads_ne hb hcs h3), h4⟩
theorem Rdr.grown {w0 W W1 : World} {g : Nat} {f : Bool} {bs : List Int} {row : Option Nat} (h : Rdr w0 W g f bs) (hg : W.grownBy W1 row) (hr : ∀ b, row = some b → g < b) : Rdr w0 W1 g f bs := by
  obtain ⟨h0, A, c, h1, h2, h3, h4⟩ := h
  have hne : some g ≠ row := fun e => Nat.lt_irrefl g (hr g e.symm)
  refine ⟨h0, A, c, blk_grown h1 hg hne, h2, ?_, h4⟩
  cases row with
  | none => exact reads_keep h3 (KeepBut.of_grown hg W.heap.size) (fun ad e _ => by have := h4.2.2 ad e; have := blk_lt h1; omega)
  | some q =>
    have hk : KeepBut W W1 q none := ⟨hg.size, fun i hi h1 _ => hg.block i hi (fun e => h1 (Option.some.inj e))⟩
    exact reads_keep h3 hk (fun ad e _ => by have := h4.2.2 ad e; have := hr q rfl; omega)
theorem Rdr.set {w0 W : World} {g : Nat} {f : Bool} {bs : List Int} (h : Rdr w0 W g f bs) (f' : Bool) : Rdr w0 (W.setCell ⟨g, 1, none⟩ (.bool f')) g f' bs := by
  obtain ⟨h0, A, c, h1, h2, h3, h4⟩ := h
  exact ⟨h0, A, c, by simpa using blk_set h1 1 (.bool f'), h2, reads_keep h3 (keep_set _ _ _ _) (reads_ne h1 cells_no_int h3), h4⟩
theorem Rdr.cut {w0 W : World} {g : Nat} {f : Bool} {bs cs : List Int} (h : Rdr w0 W g f bs) {A' : Option Addr} {c' : Nat} (hc : cs.length ≤ c') (hr : Rb W A' cs) (hl : cs.length ≤ bs.length) (hu : U8 cs) (hbl : ∀ ad, A' = some ad → ad.block < g) : Rdr w0 (W.setCell ⟨g, 0, none⟩ (.slice A' cs.length c')) g f cs := by
  obtain ⟨h0, A, c, h1, h2, h3, h4⟩ := h
  exact ⟨h0, A', c', by simpa using blk_set h1 0 (.slice A' cs.length c'), hc, reads_keep hr (keep_set _ _ _ _) (reads_ne h1 cells_no_int hr), Nat.lt_of_le_of_lt hl h4.1, hu, hbl⟩

/-- The reader's state: the bytes that are left, or that it failed. -/
def RfO (w0 W : World) (g : Nat) (st : Option (List Int)) : Prop :=
  match st with
  | some bs => Rdr w0 W g false bs
  | none => ∃ bs, Rdr w0 W g true bs
theorem RfO.any {w0 W : World} {g : Nat} {st : Option (List Int)} (h : RfO w0 W g st) : ∃ bs, Rdr w0 W g (!st.isSome) bs := by
  cases st with
  | some bs => exact ⟨bs, h⟩
  | none => exact h
theorem RfO.below {w0 W W1 : World} {g : Nat} {st : Option (List Int)} (h : RfO w0 W g st) (hb : Below W.heap.size W W1) : RfO w0 W1 g st := by
  cases st with
  | some bs => exact Rdr.below h hb
  | none => obtain ⟨bs, h⟩ := h; exact ⟨bs, h.below hb⟩
theorem RfO.keep {w0 W W1 : World} {g g' : Nat} {st : Option (List Int)} (h : RfO w0 W g st) (hk : KeepBut W W1 g' none) (hne : g ≠ g') {T : Nat} {cs : Array Value} (hb : W.heap[g']? = some (.cells cs T (0, 0))) (hcs : ∀ i : Nat, ∀ v, cs[i]? = some v → ∀ n, v ≠ Value.int .u8 n) : RfO w0 W1 g st := by
  cases st with
  | some bs => exact Rdr.keep h hk hne hb hcs
  | none => obtain ⟨bs, h⟩ := h; exact ⟨bs, h.keep hk hne hb hcs⟩
theorem RfO.grown {w0 W W1 : World} {g : Nat} {st : Option (List Int)} {row : Option Nat} (h : RfO w0 W g st) (hg : W.grownBy W1 row) (hr : ∀ b, row = some b → g < b) : RfO w0 W1 g st := by
  cases st with
  | some bs => exact Rdr.grown h hg hr
  | none => obtain ⟨bs, h⟩ := h; exact ⟨bs, h.grown hg hr⟩
theorem RfO.lower {w0 w1 W : World} {g : Nat} {st : Option (List Int)} (h : RfO w1 W g st) (hs : w0.heap.size ≤ w1.heap.size) : RfO w0 W g st := by
  cases st with
  | some bs => exact Rdr.lower h hs
  | none => obtain ⟨bs, h⟩ := h; exact ⟨bs, h.lower hs⟩
theorem RfO.blk {w0 W : World} {g : Nat} {st : Option (List Int)} (h : RfO w0 W g st) : w0.heap.size ≤ g ∧ g < W.heap.size ∧ ∃ cs, W.heap[g]? = some (.cells cs 81 (0, 0)) ∧ ∀ i : Nat, ∀ v, cs[i]? = some v → ∀ n, v ≠ Value.int .u8 n := by
  obtain ⟨bs, h0, A, c, h1, _⟩ := h.any
  exact ⟨h0, blk_lt h1, _, h1, cells_no_int⟩
theorem RfO.u8 {w0 W : World} {g : Nat} {bs : List Int} (h : RfO w0 W g (some bs)) : U8 bs ∧ bs.length < 140737488355328 := by
  obtain ⟨_, _, _, _, _, _, h1, h2⟩ := (show Rdr w0 W g false bs from h)
  exact ⟨h2.1, h1⟩
/-- What its field Fail reads as. -/
theorem RfO.fail {w0 W : World} {g : Nat} {st : Option (List Int)} (h : RfO w0 W g st) : W.cell? ⟨g, 1, none⟩ = some (.bool (!st.isSome)) ∧ W.frozen? ⟨g, 1, none⟩ = false := by
  obtain ⟨bs, _, A, c, h1, _⟩ := h.any
  exact ⟨(blk_cell h1 1).trans rfl, blk_frozen h1 1⟩
/-- What its field B reads as. -/
theorem RfO.bytes {w0 W : World} {g : Nat} {bs : List Int} (h : RfO w0 W g (some bs)) : ∃ A c, W.cell? ⟨g, 0, none⟩ = some (.slice A bs.length c) ∧ bs.length ≤ c ∧ Rb W A bs := by
  obtain ⟨_, A, c, h1, h2, h3, _⟩ := (show Rdr w0 W g false bs from h)
  exact ⟨A, c, (blk_cell h1 0).trans rfl, h2, h3⟩
theorem RfO.set {w0 W : World} {g : Nat} {st : Option (List Int)} (h : RfO w0 W g st) : RfO w0 (W.setCell ⟨g, 1, none⟩ (.bool true)) g none := by
  obtain ⟨bs, h⟩ := h.any
  exact ⟨bs, h.set true⟩
/-- What a call that is handed a reader leaves. -/
def Left (w0 w w' : World) (g : Nat) (st : Option (List Int)) : Prop := RfO w0 w' g st ∧ Below w0.heap.size w0 w' ∧ KeepBut w w' g none
theorem Left.trans {w0 w w1 w2 : World} {g : Nat} {s1 s2 : Option (List Int)} (h : Left w0 w w1 g s1) (k : Left w0 w1 w2 g s2) : Left w0 w w2 g s2 := ⟨k.1, k.2.1, h.2.2.trans k.2.2 (.inl rfl)⟩
theorem Left.set {w0 w w' : World} {g : Nat} {st : Option (List Int)} (h : Left w0 w w' g st) : Left w0 w (w'.setCell ⟨g, 1, none⟩ (.bool true)) g none := ⟨h.1.set, below_set h.2.1 h.1.blk.1, h.2.2.set_ 1 _⟩

set_option maxHeartbeats 1600000 in
set_option maxRecDepth 100000 in
theorem take_bad (w0 w : World) (g : Nat) (f : Bool) (bs : List Int) (n : Int) (h : Rdr w0 w g f bs) (hB : Below w0.heap.size w0 w) (hbad : ¬ (f = false ∧ 0 ≤ n ∧ n ≤ bs.length)) :
    Calls Try.prog 73 #[.pointer (some ⟨g, 0, none⟩), .int .i64 n] w fun e w' => ∃ v, e = .returned v ∧ Ob w' w.heap.size v [] ∧ Left w0 w w' g none := by
  have HB := Aside0.mk hB
  clear hB
  have hfin : Left w0 w (w.setCell ⟨g, 1, none⟩ (.bool true)) g none := ⟨⟨bs, h.set true⟩, below_set HB.out h.1, keep_set _ _ _ _⟩
  have HF := Aside0.mk hfin
  clear hfin
  obtain ⟨_, A, c, h1, _⟩ := h
  have hc0 : w.cell? ⟨g, 0, none⟩ = some (.slice A bs.length c) := (blk_cell h1 0).trans rfl
  have hc1 : w.cell? ⟨g, 1, none⟩ = some (.bool f) := (blk_cell h1 1).trans rfl
  have hf1 := blk_frozen h1 1
  clear h1
  cases f with
  | false =>
    by_cases hn : n < 0
    · have hd : decide (n < 0) = true := decide_eq_true hn
      clear hbad hn
      go_enter Try.func73, Try.ntmps73
      go_wp2
      go_ret
      exact ⟨_, rfl, Kd.R_nil _ _ _ _ _, HF.out⟩
    · have hd : decide (n < 0) = false := decide_eq_false hn
      have hg : decide ((bs.length : Int) < n) = true := decide_eq_true (by
        by_cases h2 : (bs.length : Int) < n
        · exact h2
        · exact absurd ⟨rfl, by omega, by omega⟩ hbad)
      clear hbad hn
      go_enter Try.func73, Try.ntmps73
      go_wp2
      go_ret
      exact ⟨_, rfl, Kd.R_nil _ _ _ _ _, HF.out⟩
  | true =>
    clear hbad
    go_enter Try.func73, Try.ntmps73
    go_wp2
    go_ret
    exact ⟨_, rfl, Kd.R_nil _ _ _ _ _, HF.out⟩

set_option maxHeartbeats 1600000 in
set_option maxRecDepth 100000 in
theorem take_good (w0 w : World) (g : Nat) (bs : List Int) (n : Nat) (h : Rdr w0 w g false bs) (hB : Below w0.heap.size w0 w) (hn : n ≤ bs.length) :
    Calls Try.prog 73 #[.pointer (some ⟨g, 0, none⟩), .int .i64 n] w fun e w' => ∃ v, e = .returned v ∧ Ob w' w.heap.size v (bs.take n) ∧ Left w0 w w' g (some (bs.drop n)) := by
  have HI := Aside0.mk h
  have HB := Aside0.mk hB
  clear hB
  obtain ⟨hg0, A, c, h1, h2, h3, h4⟩ := h
  have hnn : (0 : Int) ≤ (n : Int) := Int.natCast_nonneg _
  have hnc : (n : Int) ≤ (c : Int) := by omega
  have hd0 : decide ((n : Int) < 0) = false := decide_eq_false (by omega)
  have hd1 : decide ((bs.length : Int) < (n : Int)) = false := decide_eq_false (by omega)
  have hd2 : decide (bs.length < n) = false := decide_eq_false (by omega)
  have hc0 : w.cell? ⟨g, 0, none⟩ = some (.slice A bs.length c) := (blk_cell h1 0).trans rfl
  have hc1 : w.cell? ⟨g, 1, none⟩ = some (.bool false) := (blk_cell h1 1).trans rfl
  have hf0 := blk_frozen h1 0
  have HGL := Aside0.mk (blk_lt h1)
  have h3' := Kd.reads_of_C (d := (0 : Int)) h3
  have hlen : bs.length ≤ 9223372036854775807 := h3'.2.1
  obtain ⟨i0, hi, hz0, hz1, hz2⟩ := info_parts info_u8
  obtain ⟨A', hcut, hA', hbk⟩ := cut2 (P := Try.prog) 23 5 .i64 Try.underlying23 hi hz1 A bs.length c n hn
  have hrest : Rb w A' (bs.drop n) := by
    have := Kd.C_of_reads (d := (0 : Int)) (h1 := fun _ => rfl) (hA' w .u8 bs h2 h3')
    rwa [← List.length_drop] at this
  have hfirst : Rb w A (bs.take n) := by
    have h5 := Kd.C_of_reads (d := (0 : Int)) (h1 := fun _ => rfl) (ReadsInt.take_ h3' n hn)
    show Kd.C _ w A (bs.take n).length (bs.take n)
    rw [show (bs.take n).length = n from by rw [List.length_take]; omega]
    exact h5
  have HREST := Aside0.mk hrest
  have HFIRST := Aside0.mk hfirst
  have HU := Aside0.mk (h4.2.1.drop n)
  have HBK := Aside0.mk (show ∀ ad, A' = some ad → ad.block < g from fun ad' e => by obtain ⟨ad, e2, e3⟩ := hbk ad' e; rw [e3]; exact h4.2.2 ad e2)
  have HTL := Aside0.mk (show (bs.take n).length = n by rw [List.length_take]; omega)
  have HBL := Aside0.mk (show n < 140737488355328 by have := h4.1; omega)
  have HNC := Aside0.mk (show n ≤ c by omega)
  have HDL := Aside0.mk (show (bs.drop n).length ≤ c - n ∧ (bs.drop n).length ≤ bs.length by rw [List.length_drop]; omega)
  clear hrest hfirst h1 h3 h4 hA' hbk h3' hi hz0 hz1 hz2 hg0
  go_enter Try.func73, Try.ntmps73
  go_wp2_with (go_at_call 21; refine (copy_n A c n (bs.take n) _ HFIRST.out HTL.out HNC.out HBL.out).mono ?_; rintro e w1 ⟨v, rfl, ho, hb⟩; have HO := Aside0.mk ho; have HW := Aside0.mk hb; have hd0' := (hb.cell (p := ⟨g, 0, none⟩) HGL.out).trans hc0; have hf0' := (hb.frozen (p := ⟨g, 0, none⟩) HGL.out).trans hf0; clear ho hb hc0 hc1 hf0)
  go_ret
  have hR := ((HI.out.below HW.out).cut HDL.out.1 (Kd.C_below HREST.out HW.out) HDL.out.2 HU.out HBK.out)
  rw [List.length_drop] at hR
  refine ⟨_, rfl, Kd.R_mono (Kd.R_far (Kd.R_bound HO.out) (p := ⟨g, 0, none⟩) (fun k hk e => ?_) _) (fun _ _ => trivial), hR, below_set (HB.out.trans (HW.out.mono HB.out.size)) HI.out.1, (KeepBut.of_below HW.out g none).set_ 0 _⟩
  have h1 := hk.2.1
  have h2 := HGL.out
  dsimp only at e
  omega

theorem takeO_ (w0 w : World) (g : Nat) (st : Option (List Int)) (n : Int) (h : RfO w0 w g st) (hB : Below w0.heap.size w0 w) :
    Calls Try.prog 73 #[.pointer (some ⟨g, 0, none⟩), .int .i64 n] w fun e w' => ∃ v, e = .returned v ∧ Ob w' w.heap.size v (takeO st n).1 ∧ Left w0 w w' g (takeO st n).2 := by
  cases st with
  | some bs =>
    by_cases hn : 0 ≤ n ∧ n ≤ bs.length
    · obtain ⟨m, rfl⟩ := Int.eq_ofNat_of_zero_le hn.1
      have e : takeO (some bs) (m : Int) = (bs.take m, some (bs.drop m)) := by simp only [takeO]; rw [if_pos hn]; rfl
      rw [e]
      exact take_good w0 w g bs m h hB (by omega)
    · have e : takeO (some bs) n = ([], none) := by simp only [takeO]; rw [if_neg hn]
      rw [e]
      exact take_bad w0 w g false bs n h hB (fun h => hn h.2)
  | none =>
    obtain ⟨bs, h⟩ := h
    exact take_bad w0 w g true bs n h hB (fun h => by cases h.1)
theorem take1_cons (x : Int) (r : List Int) : takeO (some (x :: r)) 1 = ([x], some r) := by
  simp only [takeO]
  rw [if_pos (by rw [List.length_cons]; omega)]
  rfl

set_option maxHeartbeats 1600000 in
set_option maxRecDepth 100000 in
theorem num_none (w0 w : World) (g : Nat) (st : Option (List Int)) (h : RfO w0 w g st) (hB : Below w0.heap.size w0 w) (hst : takeO st 1 = ([], none)) :
    Calls Try.prog 74 #[.pointer (some ⟨g, 0, none⟩)] w fun e w' => e = .returned (.int .u64 0) ∧ Left w0 w w' g none := by
  have HS := Aside0.mk h
  have HB := Aside0.mk hB
  have E1 := Aside0.mk hst
  clear h hB hst
  go_enter Try.func74, Try.ntmps74
  go_wp2_with (first
    | (go_at_call 73; refine (takeO_ _ _ _ _ _ HS.out HB.out).mono ?_; rintro e w1 ⟨v, rfl, ho, hl⟩; rw [E1.out] at ho hl; have HL := Aside0.mk hl; have hc1 : w1.cell? ⟨g, 1, none⟩ = some (.bool true) := hl.1.fail.1; have hf1 := hl.1.fail.2; clear ho hl))
  go_ret
  exact ⟨rfl, HL.out.set⟩

set_option maxHeartbeats 1600000 in
set_option maxRecDepth 100000 in
theorem num_wide (w0 w : World) (g : Nat) (x : Int) (r : List Int) (h : RfO w0 w g (some (x :: r))) (hB : Below w0.heap.size w0 w) (hx : 8 < x) :
    Calls Try.prog 74 #[.pointer (some ⟨g, 0, none⟩)] w fun e w' => e = .returned (.int .u64 0) ∧ Left w0 w w' g none := by
  have HS := Aside0.mk h
  have HB := Aside0.mk hB
  have E1 := Aside0.mk (take1_cons x r)
  have hd : decide (8 < x) = true := decide_eq_true hx
  clear h hB hx
  go_enter Try.func74, Try.ntmps74
  go_wp2_with (first
    | (go_at_call 73; refine (takeO_ _ _ _ _ _ HS.out HB.out).mono ?_; rintro e w1 ⟨v, rfl, ho, hl⟩; rw [E1.out] at ho hl; have HL := Aside0.mk hl; have hc1 : w1.cell? ⟨g, 1, none⟩ = some (.bool false) := hl.1.fail.1; have hf1 := hl.1.fail.2; obtain ⟨A, c, rfl, hlc, hrd⟩ := Ob.reads ho; obtain ⟨ad, rfl, hc0⟩ := Rb.at0 hrd; clear ho hl hrd hlc))
  go_ret
  exact ⟨rfl, HL.out.set⟩

set_option maxHeartbeats 1600000 in
set_option maxRecDepth 100000 in
theorem num_short (w0 w : World) (g : Nat) (x : Int) (r : List Int) (h : RfO w0 w g (some (x :: r))) (hB : Below w0.heap.size w0 w) (hx0 : 0 ≤ x) (hx : x ≤ 8) (hl : (r.length : Int) < x) :
    Calls Try.prog 74 #[.pointer (some ⟨g, 0, none⟩)] w fun e w' => e = .returned (.int .u64 0) ∧ Left w0 w w' g none := by
  have HS := Aside0.mk h
  have HB := Aside0.mk hB
  have E1 := Aside0.mk (take1_cons x r)
  have E2 := Aside0.mk (show takeO (some r) x = ([], none) by simp only [takeO]; rw [if_neg (by omega)])
  have hd : decide (8 < x) = false := decide_eq_false (by omega)
  clear h hB hl
  go_enter Try.func74, Try.ntmps74
  go_wp2_with (fail)
  refine (takeO_ _ _ _ _ _ HS.out HB.out).mono ?_; rintro e w1 ⟨v, rfl, ho, hl⟩; rw [E1.out] at ho hl; have HL := Aside0.mk hl; have hc1 : w1.cell? ⟨g, 1, none⟩ = some (.bool false) := hl.1.fail.1; obtain ⟨A, c, rfl, hlc, hrd⟩ := Ob.reads ho; obtain ⟨ad, rfl, hc0⟩ := Rb.at0 hrd; clear ho hl hrd hlc
  go_wp2_with (fail)
  refine (takeO_ _ _ _ _ _ HL.out.1 HL.out.2.1).mono ?_; rintro e w2 ⟨v, rfl, ho, hl⟩; rw [E2.out] at ho hl; have HL2 := Aside0.mk (HL.out.trans hl); have hc2 : w2.cell? ⟨g, 1, none⟩ = some (.bool true) := hl.1.fail.1; have hf2 := hl.1.fail.2; clear HL ho hl hc1 hc0
  go_wp2
  go_ret
  exact ⟨rfl, HL2.out.set⟩

set_option maxHeartbeats 1600000 in
set_option maxRecDepth 100000 in
theorem num_zero (w0 w : World) (g : Nat) (x y : Int) (r : List Int) (h : RfO w0 w g (some (x :: y :: r))) (hB : Below w0.heap.size w0 w) (hx0 : 0 < x) (hx : x ≤ 8) (hl : x ≤ (r.length : Int) + 1) (hy : y = 0) :
    Calls Try.prog 74 #[.pointer (some ⟨g, 0, none⟩)] w fun e w' => e = .returned (.int .u64 0) ∧ Left w0 w w' g none := by
  subst hy
  have HS := Aside0.mk h
  have HB := Aside0.mk hB
  have E1 := Aside0.mk (take1_cons x (0 :: r))
  have E2 := Aside0.mk (show takeO (some (0 :: r)) x = (0 :: r.take (x.toNat - 1), some ((0 :: r).drop x.toNat)) by
    simp only [takeO]
    rw [if_pos (by rw [List.length_cons]; omega)]
    obtain ⟨m, hm⟩ : ∃ m, x.toNat = m + 1 := ⟨x.toNat - 1, by omega⟩
    rw [hm]; rfl)
  have hd : decide (8 < x) = false := decide_eq_false (by omega)
  clear h hB hl
  go_enter Try.func74, Try.ntmps74
  go_wp2_with (fail)
  refine (takeO_ _ _ _ _ _ HS.out HB.out).mono ?_; rintro e w1 ⟨v, rfl, ho, hl⟩; rw [E1.out] at ho hl; have HL := Aside0.mk hl; have hc1 : w1.cell? ⟨g, 1, none⟩ = some (.bool false) := hl.1.fail.1; obtain ⟨A, c, rfl, hlc, hrd⟩ := Ob.reads ho; obtain ⟨ad, rfl, hc0⟩ := Rb.at0 hrd; clear ho hl hrd hlc
  go_wp2_with (fail)
  refine (takeO_ _ _ _ _ _ HL.out.1 HL.out.2.1).mono ?_; rintro e w2 ⟨v, rfl, ho, hl⟩; rw [E2.out] at ho hl; have HL2 := Aside0.mk (HL.out.trans hl); have hc3 : w2.cell? ⟨g, 1, none⟩ = some (.bool false) := hl.1.fail.1; have hf3 := hl.1.fail.2; obtain ⟨A2, c2, rfl, hlc, hrd⟩ := Ob.reads ho; obtain ⟨ad2, rfl, hc2⟩ := Rb.at0 hrd; clear HL ho hl hlc hrd hc1 hc0
  have hl0 : decide (0 < (0 :: r.take (x.toNat - 1)).length) = true := decide_eq_true (by simp)
  generalize (0 :: r.take (x.toNat - 1)).length = nn at hl0 ⊢
  have hl2 : 0 < nn := of_decide_eq_true hl0
  have hl1 : decide (0 < (nn : Int)) = true := decide_eq_true (by omega)
  go_wp2
  go_ret
  exact ⟨rfl, HL2.out.set⟩

set_option maxHeartbeats 3200000 in
set_option maxRecDepth 100000 in
theorem num_good (w0 w : World) (g : Nat) (x : Int) (r : List Int) (h : RfO w0 w g (some (x :: r))) (hB : Below w0.heap.size w0 w) (hx0 : 0 ≤ x) (hx : x ≤ 8) (hl : x ≤ (r.length : Int)) (hy : ¬ (0 < x ∧ r.getD 0 0 = 0)) :
    Calls Try.prog 74 #[.pointer (some ⟨g, 0, none⟩)] w fun e w' => e = .returned (.int .u64 (valueB (r.take x.toNat))) ∧ Left w0 w w' g (some (r.drop x.toNat)) := by
  have HS := Aside0.mk h
  have HB := Aside0.mk hB
  have HU := Aside0.mk ((h.u8.1.tail).take x.toNat)
  have E1 := Aside0.mk (take1_cons x r)
  have E2 := Aside0.mk (show takeO (some r) x = (r.take x.toNat, some (r.drop x.toNat)) by simp only [takeO]; rw [if_pos ⟨hx0, hl⟩])
  obtain ⟨l, hL⟩ : ∃ l, l = r.take x.toNat := ⟨_, rfl⟩
  have hlen : l.length = x.toNat := by rw [hL, List.length_take]; omega
  have hb : (decide (0 < l.length) && (rd l 0 == 0)) = false := by
    rw [Bool.and_eq_false_iff]
    by_cases h0 : 0 < x
    · right
      rw [beq_eq_false_iff_ne]
      intro e
      apply hy
      refine ⟨h0, ?_⟩
      rw [hL] at e
      obtain ⟨m, hm⟩ : ∃ m, x.toNat = m + 1 := ⟨x.toNat - 1, by omega⟩
      cases r with
      | nil => simp at hl; omega
      | cons y r => simpa [rd, hm] using e
    · left
      exact decide_eq_false (by omega)
  rw [← hL] at HU E2 ⊢
  have H8 := Aside0.mk (show l.length ≤ 8 by omega)
  have hd : decide (8 < x) = false := decide_eq_false (by omega)
  clear h hB hl hy hL hlen
  go_enter Try.func74, Try.ntmps74
  go_wp2_with (fail)
  refine (takeO_ _ _ _ _ _ HS.out HB.out).mono ?_; rintro e w1 ⟨v, rfl, ho, hl⟩; rw [E1.out] at ho hl; have HL := Aside0.mk hl; have hc1 : w1.cell? ⟨g, 1, none⟩ = some (.bool false) := hl.1.fail.1; obtain ⟨A, c, rfl, hlc, hrd⟩ := Ob.reads ho; obtain ⟨ad, rfl, hc0⟩ := Rb.at0 hrd; clear ho hl hrd hlc
  go_wp2_with (fail)
  refine (takeO_ _ _ _ _ _ HL.out.1 HL.out.2.1).mono ?_; rintro e w2 ⟨v, rfl, ho, hl⟩; rw [E2.out] at ho hl; have HL2 := Aside0.mk (HL.out.trans hl); have hc3 : w2.cell? ⟨g, 1, none⟩ = some (.bool false) := hl.1.fail.1; obtain ⟨A2, c2, rfl, hlc, hrd⟩ := Ob.reads ho; have HRD := Aside0.mk hrd; have HLC := Aside0.mk hlc; clear HL ho hl hlc hrd hx0 hc1 hc0
  by_cases hz : 0 < l.length
  · have hzi : (0 : Int) < (l.length : Int) := by omega
    obtain ⟨ad2, hA2, hc2⟩ := Kd.at_int HRD.out 0 (Int.le_refl _) hzi
    subst hA2
    have hz0 : decide (0 < l.length) = true := decide_eq_true hz
    have hz1 : decide (0 < (l.length : Int)) = true := decide_eq_true (by omega)
    have hb1 : (rd l 0 == 0) = false := by rw [hz0, Bool.true_and] at hb; exact hb
    have hc5 : w2.cell? ad2 = some (.int .u8 (rd l 0)) := by simpa [Addr.add] using hc2
    clear hb hc2
    go_wp2_with (go_at_call 82; refine (value_c _ c2 l _ HRD.out HLC.out HU.out H8.out).mono ?_; rintro e w' ⟨rfl, ⟨m1, rfl⟩⟩)
    go_ret
    exact ⟨rfl, HL2.out.1.below (Drawn0.mk ⟨m1, rfl⟩).below, pw_below_drewN HL2.out.2.1 m1, keep_drewN HL2.out.2.2 m1⟩
  · have hz0 : decide (0 < l.length) = false := decide_eq_false hz
    have hl0 : l = [] := List.length_eq_zero_iff.1 (by omega)
    subst hl0
    clear hb hz hz0
    have hf0 : decide ((0 : Int) < 0) = false := rfl
    go_wp2_with (go_at_call 82; refine (value_c A2 c2 [] _ HRD.out HLC.out HU.out H8.out).mono ?_; rintro e w' ⟨rfl, ⟨m1, rfl⟩⟩)
    go_ret
    exact ⟨rfl, HL2.out.1.below (Drawn0.mk ⟨m1, rfl⟩).below, pw_below_drewN HL2.out.2.1 m1, keep_drewN HL2.out.2.2 m1⟩

theorem numO_ (w0 w : World) (g : Nat) (st : Option (List Int)) (h : RfO w0 w g st) (hB : Below w0.heap.size w0 w) :
    Calls Try.prog 74 #[.pointer (some ⟨g, 0, none⟩)] w fun e w' => e = .returned (.int .u64 (numO st).1) ∧ Left w0 w w' g (numO st).2 := by
  match st, h with
  | none, h => exact num_none w0 w g none h hB rfl
  | some [], h => exact num_none w0 w g (some []) h hB rfl
  | some (x :: r), h =>
    have hx0 := h.u8.1.head.1
    simp only [numO]
    by_cases h1 : x > 8
    · rw [if_pos h1]; exact num_wide w0 w g x r h hB h1
    · rw [if_neg h1]
      by_cases h2 : (r.length : Int) < x
      · rw [if_pos h2]; exact num_short w0 w g x r h hB hx0 (by omega) h2
      · rw [if_neg h2]
        by_cases h3 : 0 < x ∧ r.getD 0 0 = 0
        · rw [if_pos h3]
          cases r with
          | nil => simp at h2; omega
          | cons y r => exact num_zero w0 w g x y r h hB h3.1 (by omega) (by simp at h2; omega) (by simpa using h3.2)
        · rw [if_neg h3]; exact num_good w0 w g x r h hB hx0 (by omega) (by omega) h3

set_option maxHeartbeats 1600000 in
set_option maxRecDepth 100000 in
theorem countO_ (w0 w : World) (g : Nat) (st : Option (List Int)) (most : Int) (h : RfO w0 w g st) (hB : Below w0.heap.size w0 w) (hm : most ≤ 9223372036854775807) :
    Calls Try.prog 83 #[.pointer (some ⟨g, 0, none⟩), .int .i64 most] w fun e w' => e = .returned (.int .i64 (countO st most).1) ∧ Left w0 w w' g (countO st most).2 := by
  have HS := Aside0.mk h
  have HB := Aside0.mk hB
  have hr := numO_range (st := st) (fun bs e => by subst e; exact h.u8.1)
  unfold countO
  obtain ⟨nv, hnv⟩ : ∃ nv, nv = (numO st).1 := ⟨_, rfl⟩
  rw [← hnv] at hr ⊢
  have HN := Aside0.mk hnv
  have HR := Aside0.mk hr
  have HM := Aside0.mk hm
  clear hm
  clear hr hnv h hB
  by_cases h1 : most < 0
  · rw [if_pos (Or.inl h1)]
    have hd : decide (most < 0) = true := decide_eq_true h1
    clear h1
    go_enter Try.func83, Try.ntmps83
    go_wp2_with (go_at_call 74; refine (numO_ _ _ _ _ HS.out HB.out).mono ?_; rintro e w1 ⟨rfl, hl⟩; rw [← HN.out]; have HL := Aside0.mk hl; obtain ⟨hc1, hf1⟩ := hl.1.fail; clear hl)
    go_ret
    exact ⟨rfl, HL.out.set⟩
  · have hd : decide (most < 0) = false := decide_eq_false h1
    have hw : IntKind.u64.wrap most = most := IntWalk.u64_in _ (by have := HM.out; omega)
    by_cases h2 : nv > most
    · rw [if_pos (Or.inr h2)]
      have hd2 : decide (most < nv) = true := decide_eq_true h2
      clear h1 h2
      go_enter Try.func83, Try.ntmps83
      go_wp2_with (go_at_call 74; refine (numO_ _ _ _ _ HS.out HB.out).mono ?_; rintro e w1 ⟨rfl, hl⟩; rw [← HN.out]; have HL := Aside0.mk hl; obtain ⟨hc1, hf1⟩ := hl.1.fail; clear hl)
      go_ret
      exact ⟨rfl, HL.out.set⟩
    · rw [if_neg (by omega)]
      have hd2 : decide (most < nv) = false := decide_eq_false h2
      have hv : wrap64 nv = nv := IntWalk.wrap64_in _ (by have := HM.out; have := HR.out; omega)
      clear h1 h2
      go_enter Try.func83, Try.ntmps83
      go_wp2_with (go_at_call 74; refine (numO_ _ _ _ _ HS.out HB.out).mono ?_; rintro e w1 ⟨rfl, hl⟩; rw [← HN.out]; have HL := Aside0.mk hl; clear hl)
      go_ret
      exact ⟨by rw [← HN.out, hv]; rfl, HL.out⟩

set_option maxHeartbeats 800000 in
theorem textO_ (w0 w : World) (g : Nat) (st : Option (List Int)) (most : Int) (h : RfO w0 w g st) (hB : Below w0.heap.size w0 w) (hm : most ≤ 9223372036854775807) :
    Calls Try.prog 75 #[.pointer (some ⟨g, 0, none⟩), .int .i64 most] w fun e w' => ∃ v, e = .returned v ∧ Ob w' w.heap.size v (textO st most).1 ∧ Left w0 w w' g (textO st most).2 := by
  have HS := Aside0.mk h
  have HB := Aside0.mk hB
  have HM := Aside0.mk hm
  clear hm h hB
  go_enter Try.func75, Try.ntmps75
  go_wp2_with (first
    | (go_at_call 83; refine (countO_ _ _ _ _ _ HS.out HB.out HM.out).mono ?_; rintro e w1 ⟨rfl, hl⟩; have HL := Aside0.mk hl; clear hl)
    | (go_at_call 73; refine (takeO_ _ _ _ _ _ HL.out.1 HL.out.2.1).mono ?_; rintro e w2 ⟨v, rfl, ho, hl⟩; have HO := Aside0.mk ho; have HT := Aside0.mk hl; clear hl ho))
  go_ret
  exact ⟨_, rfl, Kd.R_lower HO.out HL.out.2.2.1, HL.out.trans HT.out⟩
end Go.Proofs.Ytgohmganimamcaa.Rf
