import Derived.Test.YtobljmgoengofaaTlvLive
import Derived.Test.YtobljmgoengofaaRefRd
import Derived.Deep.RegionHeld3
import Derived.Deep.DeepCutAuto
/- TlvReads: the law's walk: two readers side by side. -/
namespace Go.Proofs.Ytobljmgoengofaa.TlvReads
open Go.Proofs.Ytobljmgoengofaa.Base Go.Proofs.Ytobljmgoengofaa.TlvPlain Go.Proofs.Ytobljmgoengofaa.Tlv Go.Proofs.Ytobljmgoengofaa.TlvLive Go.Proofs.Ytobljmgoengofaa.Lo Go.RowKit Go.Proofs.YtobljmgoengofaaW.PrintWords Go.Proofs.YtobljmgoengofaaW.PrintLast Go.Proofs.YtobljmgoengofaaW.PrintMore
open Rf (RfO)

abbrev AK : Kd (Int × Int) := Kd.pair (Kd.int .i64) (Kd.int .i64)
theorem u8_wf {l : List Int} (h : ∀ x ∈ l, (Lit.int .u8 x).wf = true) : U8 l := by
  intro x hx
  have := h x hx
  simp only [Lit.wf, IntKind.min, IntKind.max, IntKind.signed, IntKind.bits, Bool.and_eq_true] at this
  simp at this
  omega
theorem i64_wf {n : Int} (h : (Lit.int .i64 n).wf = true) : -9223372036854775808 ≤ n ∧ n ≤ 9223372036854775807 := by
  simp only [Lit.wf, IntKind.min, IntKind.max, IntKind.signed, IntKind.bits, Bool.and_eq_true] at h
  simp at h
  omega
/-- Where the first reader was asked, the second is as it was .. -/
theorem keepT {w0 W W1 : World} {g g2 : Nat} {st st1 st2 : Option (List Int)} (hS : RdO w0 W g st) (hT : RfO w0 W g2 st2) (hne : g ≠ g2) (hl : Tlv.Left w0 W W1 g st1) : RfO w0 W1 g2 st2 := by
  obtain ⟨_, _, cs, hb, hcs⟩ := hS.blk
  exact hT.keep hl.2.2 (fun e => hne e.symm) hb hcs
/-- .. and the other way round. -/
theorem keepS {w0 W W1 : World} {g g2 : Nat} {st st1 st2 : Option (List Int)} (hT : RfO w0 W g2 st2) (hS : RdO w0 W g st) (hne : g ≠ g2) (hl : Rf.Left w0 W W1 g2 st1) : RdO w0 W1 g st := by
  obtain ⟨_, _, cs, hb, hcs⟩ := hT.blk
  exact hS.keep hl.2.2 hne hb hcs
/-- What lies between two rounds. -/
def Inv (w : World) (g g2 n : Nat) (i : Value) (wr : World) : Prop :=
  ∃ (k : Nat) (st : Option (List Int)), k ≤ n ∧ i = .int .i64 k ∧ RdO w wr g st ∧ RfO w wr g2 st ∧ Below w.heap.size w wr
/-- The cells of ask number k. -/
theorem ask_at {w : World} {A : Option Addr} {l : List (Int × Int)} (h : Kd.C AK w A l.length l) (k : Nat) (hk : k < l.length) :
    ∃ ad, A = some ad ∧ w.cell? (ad.add (k * 2)) = some (.int .i64 l[k].1) ∧ w.cell? ⟨(ad.add (k * 2)).block, (ad.add (k * 2)).off + 1, none⟩ = some (.int .i64 l[k].2) := by
  obtain ⟨ad, c, e, hl, ⟨c0, c1, rfl, ⟨e0⟩, ⟨e1⟩⟩, hc⟩ := Kd.C_get h (0, 0) (k : Int) (by omega) (by omega)
  have e : l.getD (k : Int).toNat (0, 0) = l[k] := by simp [List.getD_eq_getElem?_getD, List.getElem?_eq_getElem hk]
  refine ⟨ad, by assumption, ?_, ?_⟩
  · have h2 := hc 0 (.int .i64 l[k].1) (by simp [← e])
    simpa using (show w.cell? (ad.add ((k : Int).toNat * 2 + 0)) = _ from h2)
  · have h2 := hc 1 (.int .i64 l[k].2) (by simp [← e])
    have h3 : (⟨(ad.add (k * 2)).block, (ad.add (k * 2)).off + 1, none⟩ : Addr) = ad.add (k * 2 + 1) := by rw [← Addr.add_add]; simp [Addr.add]
    rw [h3]
    simpa using (show w.cell? (ad.add ((k : Int).toNat * 2 + 1)) = _ from h2)

theorem takeO_len {st : Option (List Int)} {N : Nat} (hN : 0 < N) (hu : ∀ bs, st = some bs → bs.length < N) (n : Int) : (takeO st n).1.length < N := by
  unfold takeO
  split
  · next bs =>
    have := hu _ rfl
    split
    · rw [List.length_take]; omega
    · exact hN
  · exact hN
theorem numO_len {st : Option (List Int)} {N : Nat} (hu : ∀ bs, st = some bs → bs.length < N) : ∀ bs, (numO st).2 = some bs → bs.length < N := by
  intro bs
  unfold numO
  split
  · next x r =>
    have := hu _ rfl
    split
    · simp
    · split
      · simp
      · split
        · simp
        · intro h
          injection h with h
          subst h
          rw [List.length_drop]
          simp at this
          omega
  · simp
theorem textO_len {st : Option (List Int)} {N : Nat} (hN : 0 < N) (hu : ∀ bs, st = some bs → bs.length < N) (n : Int) : (textO st n).1.length < N := by
  refine takeO_len hN (fun bs => ?_) _
  unfold countO
  split
  · simp
  · exact numO_len hu bs

set_option maxHeartbeats 1000000 in
set_option maxRecDepth 100000 in
theorem long (w : World) (b : List Int) (l : List (Int × Int)) (A1 A2 : Option Addr) (c1 c2 : Nat) (h : 2000 < b.length ∨ 100 < l.length) :
    Calls Try.prog 7 #[.slice A1 b.length c1, .slice A2 l.length c2] w fun e w' => e = .returned (.bool true) ∧ Below w.heap.size w w' := by
  by_cases h1 : 2000 < b.length
  · have hd1 : decide (2000 < b.length) = true := decide_eq_true h1
    have hd2 : decide ((2000 : Int) < (b.length : Int)) = true := decide_eq_true (by omega)
    clear h h1
    go_enter Try.func7, Try.ntmps7
    go_wp2_with (go_at_call 35; refine (live_c _).mono ?_; rintro e w1 ⟨rfl, hb⟩)
    go_ret
    exact ⟨rfl, hb⟩
  · have hd1 : decide (2000 < b.length) = false := decide_eq_false h1
    have hd2 : decide ((2000 : Int) < (b.length : Int)) = false := decide_eq_false (by omega)
    have hd3 : decide (100 < l.length) = true := decide_eq_true (by omega)
    have hd4 : decide ((100 : Int) < (l.length : Int)) = true := decide_eq_true (by omega)
    clear h h1
    go_enter Try.func7, Try.ntmps7
    go_wp2_with (go_at_call 35; refine (live_c _).mono ?_; rintro e w1 ⟨rfl, hb⟩)
    go_ret
    exact ⟨rfl, hb⟩

set_option maxHeartbeats 4000000 in
set_option maxRecDepth 100000 in
theorem short (w : World) (b : List Int) (l : List (Int × Int)) (A1 A2 : Option Addr) (c1 c2 : Nat) (h1 : b.length ≤ 2000) (h2 : l.length ≤ 100)
    (hrb : Rb w A1 b) (hcb : b.length ≤ c1) (hub : U8 b) (hrl : Kd.C AK w A2 l.length l) (hwf : ∀ x ∈ l, x.2 ≤ 9223372036854775807) :
    Calls Try.prog 7 #[.slice A1 b.length c1, .slice A2 l.length c2] w fun e w' => e = .returned (.bool true) ∧ Below w.heap.size w w' := by
  have hd1 : decide (2000 < b.length) = false := decide_eq_false (by omega)
  have hd2 : decide ((2000 : Int) < (b.length : Int)) = false := decide_eq_false (by omega)
  have hd3 : decide (100 < l.length) = false := decide_eq_false (by omega)
  have hd4 : decide ((100 : Int) < (l.length : Int)) = false := decide_eq_false (by omega)
  have HRB := Aside0.mk hrb
  have HCB := Aside0.mk hcb
  have HUB := Aside0.mk hub
  have HRL := Aside0.mk hrl
  have HWF := Aside0.mk hwf
  have H1 := Aside0.mk h1
  have HBR := Aside0.mk (Below.refl w.heap.size w)
  clear hrb hcb hub hrl hwf h1
  go_enter Try.func7, Try.ntmps7
  go_wp2_with (first
    | (go_at_call 36; refine (newO A1 c1 b _ HRB.out HCB.out (by have := H1.out; omega) HUB.out).mono ?_; rintro e w1 ⟨g, rfl, hs, hb⟩; have HS := Aside0.mk hs; have HB := Aside0.mk hb; clear hs hb)
    | (go_at_call 37; refine (copy_c A1 c1 b _ (Kd.C_below HRB.out HB.out) HCB.out (by have := H1.out; omega)).mono ?_; rintro e w2 ⟨v, rfl, ho, hb⟩; have HS2 := Aside0.mk (RdO.below HS.out hb); clear HS; have HG := Aside0.mk (HS2.out.blk.2.1); have n1_ := Aside0.mk (below_step HB.out hb); clear HB; have HB := n1_; clear n1_; clear hb; obtain ⟨Ay, cy, rfl, hl_, hr_⟩ := Ob.reads ho; have HRy := Aside0.mk hr_; have HLy := Aside0.mk hl_; clear ho hl_ hr_))
  have HNE := Aside0.mk (show g ≠ w2.heap.size by have := HG.out; omega)
  have hI : Inv w g w2.heap.size l.length (.int .i64 0) (w2.alloc (.cells #[.slice Ay b.length cy, .bool false] 49)) :=
    ⟨0, some b, Nat.zero_le _, rfl, HS2.out.below (below_alloc (Below.refl _ _) _), ⟨HB.out.size, Ay, cy, blk_new _ _, HLy.out, Kd.C_alloc HRy.out _, by have := H1.out; omega, HUB.out⟩, below_alloc HB.out _⟩
  have HI := Aside0.mk hI
  generalize w2.heap.size = g2 at HI HNE ⊢
  clear hI HS2 HRy HLy HG HB
  go_loopw [7] (fun i wr => Inv w g g2 l.length i wr) (fun i _ => l.length - (intOf i).toNat)
  case atStart => exact HI.out
  case round =>
    clear HI
    obtain ⟨k, st, hk, rfl, hs, ht, hb⟩ := hrel
    have HS := Aside0.mk hs
    have HT := Aside0.mk ht
    have HB := Aside0.mk hb
    clear hs ht hb
    by_cases hlt : k < l.length
    · obtain ⟨ad, rfl, hx0, hx1⟩ := ask_at HRL.out k hlt
      have hc0 := (HB.out.cell (World.block_lt_of_cell? w _ hx0)).trans hx0
      have hc1 := (HB.out.cell (World.block_lt_of_cell? w _ hx1)).trans hx1
      have HX1 := Aside0.mk hx1
      have HM := Aside0.mk (HWF.out _ (List.getElem_mem hlt))
      generalize l[k].1 = kd at hc0
      generalize l[k].2 = n at hc1 HX1 HM
      clear hx0 hx1
      by_cases hk0 : kd = 0
      · subst hk0
        go_wp2_with (first
          | (go_at_call 38; refine (numO_ _ _ _ _ HS.out HB.out).mono ?_; rintro e w3 ⟨rfl, hl⟩; have HS3 := Aside0.mk hl.1; have HB3 := Aside0.mk hl.2.1; have HT3 := Aside0.mk (keepT HS.out HT.out HNE.out hl); clear hl)
          | (go_at_call 39; refine (Rf.numO_ _ _ _ _ HT3.out HB3.out).mono ?_; rintro e w4 ⟨rfl, hl⟩; have HT4 := Aside0.mk hl.1; have HB4 := Aside0.mk hl.2.1; have HS4 := Aside0.mk (keepS HT3.out HS3.out HNE.out hl); clear hl))
        have hf := HT4.out.fail.1
        generalize (numO st).2 = st2 at HS4 HT4 hf
        clear HS HT HB HS3 HB3 HT3
        cases st2 with
        | none =>
          have hf2 : w4.cell? ⟨g2, 1, none⟩ = some (.bool true) := hf
          clear hf
          go_quiet (first
            | (go_at_call 47; refine (okO w _ g none (HS4.out.below (pw_below_drewN (Below.refl _ _) _))).mono ?_; rintro e w' ⟨rfl, rfl⟩; exact ⟨rfl, _, rfl⟩)
            | (go_at_call 48; refine (leftO_ w _ g none (HS4.out.below (pw_below_drewN (Below.refl _ _) _))).mono ?_; rintro e w' ⟨rfl, rfl⟩; exact ⟨rfl, _, rfl⟩)
            | (go_at_call 49; refine (Rf.left_ w _ g2 none (HT4.out.below (pw_below_drewN (Below.refl _ _) _))).mono ?_; rintro e w' ⟨rfl, rfl⟩; exact ⟨rfl, _, rfl⟩))
          go_wp2
          go_roundw
          case rel => exact ⟨k + 1, none, by omega, by go_num, HS4.out.below (pw_below_drewN (Below.refl _ _) _), HT4.out.below (pw_below_drewN (Below.refl _ _) _), pw_below_drewN HB4.out _⟩
          case measure => simp [intOf]; omega
        | some bs =>
          have hf2 : w4.cell? ⟨g2, 1, none⟩ = some (.bool false) := hf
          clear hf
          go_quiet (first
            | (go_at_call 47; refine (okO w _ g (some bs) (HS4.out.below (pw_below_drewN (Below.refl _ _) _))).mono ?_; rintro e w' ⟨rfl, rfl⟩; exact ⟨rfl, _, rfl⟩)
            | (go_at_call 48; refine (leftO_ w _ g (some bs) (HS4.out.below (pw_below_drewN (Below.refl _ _) _))).mono ?_; rintro e w' ⟨rfl, rfl⟩; exact ⟨rfl, _, rfl⟩)
            | (go_at_call 49; refine (Rf.left_ w _ g2 (some bs) (HT4.out.below (pw_below_drewN (Below.refl _ _) _))).mono ?_; rintro e w' ⟨rfl, rfl⟩; exact ⟨rfl, _, rfl⟩))
          go_wp2
          go_roundw
          case rel => exact ⟨k + 1, (some bs), by omega, by go_num, HS4.out.below (pw_below_drewN (Below.refl _ _) _), HT4.out.below (pw_below_drewN (Below.refl _ _) _), pw_below_drewN HB4.out _⟩
          case measure => simp [intOf]; omega
      by_cases hk1 : kd = 1
      · subst hk1
        clear hk0
        go_wp2_with (first
          | (go_at_call 40; refine (intO_ _ _ _ _ HS.out HB.out).mono ?_; rintro e w3 ⟨rfl, hl⟩; have HS3 := Aside0.mk hl.1; have HB3 := Aside0.mk hl.2.1; have HT3 := Aside0.mk (keepT HS.out HT.out HNE.out hl); clear hl)
          | (go_at_call 39; refine (Rf.numO_ _ _ _ _ HT3.out HB3.out).mono ?_; rintro e w4 ⟨rfl, hl⟩; have HT4 := Aside0.mk hl.1; have HB4 := Aside0.mk hl.2.1; have HS4 := Aside0.mk (keepS HT3.out HS3.out HNE.out hl); clear hl))
        have hf := HT4.out.fail.1
        generalize (numO st).2 = st2 at HS4 HT4 hf
        clear HS HT HB HS3 HB3 HT3
        cases st2 with
        | none =>
          have hf2 : w4.cell? ⟨g2, 1, none⟩ = some (.bool true) := hf
          clear hf
          go_quiet (first
            | (go_at_call 47; refine (okO w _ g none (HS4.out.below (pw_below_drewN (Below.refl _ _) _))).mono ?_; rintro e w' ⟨rfl, rfl⟩; exact ⟨rfl, _, rfl⟩)
            | (go_at_call 48; refine (leftO_ w _ g none (HS4.out.below (pw_below_drewN (Below.refl _ _) _))).mono ?_; rintro e w' ⟨rfl, rfl⟩; exact ⟨rfl, _, rfl⟩)
            | (go_at_call 49; refine (Rf.left_ w _ g2 none (HT4.out.below (pw_below_drewN (Below.refl _ _) _))).mono ?_; rintro e w' ⟨rfl, rfl⟩; exact ⟨rfl, _, rfl⟩))
          go_wp2
          go_roundw
          case rel => exact ⟨k + 1, none, by omega, by go_num, HS4.out.below (pw_below_drewN (Below.refl _ _) _), HT4.out.below (pw_below_drewN (Below.refl _ _) _), pw_below_drewN HB4.out _⟩
          case measure => simp [intOf]; omega
        | some bs =>
          have hf2 : w4.cell? ⟨g2, 1, none⟩ = some (.bool false) := hf
          clear hf
          go_quiet (first
            | (go_at_call 47; refine (okO w _ g (some bs) (HS4.out.below (pw_below_drewN (Below.refl _ _) _))).mono ?_; rintro e w' ⟨rfl, rfl⟩; exact ⟨rfl, _, rfl⟩)
            | (go_at_call 48; refine (leftO_ w _ g (some bs) (HS4.out.below (pw_below_drewN (Below.refl _ _) _))).mono ?_; rintro e w' ⟨rfl, rfl⟩; exact ⟨rfl, _, rfl⟩)
            | (go_at_call 49; refine (Rf.left_ w _ g2 (some bs) (HT4.out.below (pw_below_drewN (Below.refl _ _) _))).mono ?_; rintro e w' ⟨rfl, rfl⟩; exact ⟨rfl, _, rfl⟩))
          go_wp2
          go_roundw
          case rel => exact ⟨k + 1, (some bs), by omega, by go_num, HS4.out.below (pw_below_drewN (Below.refl _ _) _), HT4.out.below (pw_below_drewN (Below.refl _ _) _), pw_below_drewN HB4.out _⟩
          case measure => simp [intOf]; omega
      by_cases hk2 : kd = 2
      · subst hk2
        clear hk0 hk1
        go_wp2_with (fail)
        have HSd := Aside0.mk (HS.out.below (below_drew1 (Below.refl _ _)))
        have HTd := Aside0.mk (HT.out.below (below_drew1 (Below.refl _ _)))
        have HBd := Aside0.mk (below_drew1 HB.out)
        go_region_held3 (fun w' => w'.cell? ⟨(ad.add (k * 2)).block, (ad.add (k * 2)).off + 1, none⟩ = some (.int .i64 n)) (first | assumption | (simp [*]; done))
          (first
          | (go_at_call 41; refine (countO_ _ _ _ _ n HSd.out HBd.out HM.out).mono ?_; rintro e w3 ⟨rfl, hl⟩; have hc3 := (hl.2.1.cell (World.block_lt_of_cell? w _ HX1.out)).trans HX1.out; have HS3 := Aside0.mk hl.1; have HB3 := Aside0.mk hl.2.1; have HT3 := Aside0.mk (keepT HSd.out HTd.out HNE.out hl); clear hl)
          | (go_at_call 42; refine (Rf.countO_ _ _ _ _ n HT3.out HB3.out HM.out).mono ?_; rintro e w4 ⟨rfl, hl⟩; have hc4 := (hl.2.1.cell (World.block_lt_of_cell? w _ HX1.out)).trans HX1.out; have HT4 := Aside0.mk hl.1; have HB4 := Aside0.mk hl.2.1; have HS4 := Aside0.mk (keepS HT3.out HS3.out HNE.out hl); clear hl))
        clear hc0 hc1 hc3 hc4
        go_wp2_with (fail)
        have hf := HT4.out.fail.1
        generalize (countO st n).2 = st2 at HS4 HT4 hf
        clear HS HT HB HS3 HB3 HT3 HSd HTd HBd
        cases st2 with
        | none =>
          have hf2 : w4.cell? ⟨g2, 1, none⟩ = some (.bool true) := hf
          clear hf
          go_quiet (first
            | (go_at_call 47; refine (okO w _ g none (HS4.out.below (pw_below_drewN (Below.refl _ _) _))).mono ?_; rintro e w' ⟨rfl, rfl⟩; exact ⟨rfl, _, rfl⟩)
            | (go_at_call 48; refine (leftO_ w _ g none (HS4.out.below (pw_below_drewN (Below.refl _ _) _))).mono ?_; rintro e w' ⟨rfl, rfl⟩; exact ⟨rfl, _, rfl⟩)
            | (go_at_call 49; refine (Rf.left_ w _ g2 none (HT4.out.below (pw_below_drewN (Below.refl _ _) _))).mono ?_; rintro e w' ⟨rfl, rfl⟩; exact ⟨rfl, _, rfl⟩))
          go_wp2
          go_roundw
          case rel => exact ⟨k + 1, none, by omega, by go_num, HS4.out.below (pw_below_drewN (Below.refl _ _) _), HT4.out.below (pw_below_drewN (Below.refl _ _) _), pw_below_drewN HB4.out _⟩
          case measure => simp [intOf]; omega
        | some bs =>
          have hf2 : w4.cell? ⟨g2, 1, none⟩ = some (.bool false) := hf
          clear hf
          go_quiet (first
            | (go_at_call 47; refine (okO w _ g (some bs) (HS4.out.below (pw_below_drewN (Below.refl _ _) _))).mono ?_; rintro e w' ⟨rfl, rfl⟩; exact ⟨rfl, _, rfl⟩)
            | (go_at_call 48; refine (leftO_ w _ g (some bs) (HS4.out.below (pw_below_drewN (Below.refl _ _) _))).mono ?_; rintro e w' ⟨rfl, rfl⟩; exact ⟨rfl, _, rfl⟩)
            | (go_at_call 49; refine (Rf.left_ w _ g2 (some bs) (HT4.out.below (pw_below_drewN (Below.refl _ _) _))).mono ?_; rintro e w' ⟨rfl, rfl⟩; exact ⟨rfl, _, rfl⟩))
          go_wp2
          go_roundw
          case rel => exact ⟨k + 1, (some bs), by omega, by go_num, HS4.out.below (pw_below_drewN (Below.refl _ _) _), HT4.out.below (pw_below_drewN (Below.refl _ _) _), pw_below_drewN HB4.out _⟩
          case measure => simp [intOf]; omega
      by_cases hk3 : kd = 3
      · subst hk3
        clear hk0 hk1 hk2
        have HLN := Aside0.mk (textO_len (st := st) (N := 140737488355328) (by omega) (fun bs e => by subst e; exact HS.out.u8.2) n)
        go_wp2_with (fail)
        have HSd := Aside0.mk (HS.out.below (below_drew1 (Below.refl _ _)))
        have HTd := Aside0.mk (HT.out.below (below_drew1 (Below.refl _ _)))
        have HBd := Aside0.mk (below_drew1 HB.out)
        go_region_held3 (fun w' => w'.cell? ⟨(ad.add (k * 2)).block, (ad.add (k * 2)).off + 1, none⟩ = some (.int .i64 n)) (first | assumption | (simp [*]; done))
          (first
          | (go_at_call 43; refine (textO_ _ _ _ _ n HSd.out HBd.out HM.out).mono ?_; rintro e w3 ⟨v, rfl, ho, hl⟩; have hc3 := (hl.2.1.cell (World.block_lt_of_cell? w _ HX1.out)).trans HX1.out; have HS3 := Aside0.mk hl.1; have HB3 := Aside0.mk hl.2.1; have HT3 := Aside0.mk (keepT HSd.out HTd.out HNE.out hl); clear hl; obtain ⟨Ax, cx, rfl, hl_, hr_⟩ := Ob.reads ho; have HRx := Aside0.mk hr_; have HLx := Aside0.mk hl_; clear ho hl_ hr_)
          | (go_at_call 44; refine (Rf.textO_ _ _ _ _ n HT3.out HB3.out HM.out).mono ?_; rintro e w4 ⟨v, rfl, ho, hl⟩; have hc4 := (hl.2.1.cell (World.block_lt_of_cell? w _ HX1.out)).trans HX1.out; have HT4 := Aside0.mk hl.1; have HB4 := Aside0.mk hl.2.1; have HS4 := Aside0.mk (keepS HT3.out HS3.out HNE.out hl); have n3_ := Aside0.mk (reads_keep HRx.out hl.2.2 (by obtain ⟨_, _, cs, hb, hcs⟩ := HT3.out.blk; exact reads_ne hb hcs HRx.out)); clear hl HRx; have HRx := n3_; clear n3_; obtain ⟨Az, cz, rfl, hl_, hr_⟩ := Ob.reads ho; have HRz := Aside0.mk hr_; have HLz := Aside0.mk hl_; clear ho hl_ hr_)
          | (go_at_call 18; refine (same_c Ax cx (textO st n).1 Az cz (textO st n).1 _ HRx.out HLx.out HRz.out HLz.out (by have := HLN.out; omega)).mono ?_; rintro e w5 ⟨rfl, hd⟩; have hb := Drawn0.below hd; have hc5 := (hb.cell (World.block_lt_of_cell? w4 _ hc4)).trans hc4; have HS5 := Aside0.mk (HS4.out.below hb); have HT5 := Aside0.mk (HT4.out.below hb); have HB5 := Aside0.mk (below_step HB4.out hb); clear hd hb))
        clear hc0 hc1 hc3 hc4 hc5 HS4 HT4 HB4 HRx HRz HLx HLz
        have HS4 := HS5
        have HT4 := HT5
        have HB4 := HB5
        clear HS5 HT5 HB5
        generalize w5 = w4 at HS4 HT4 HB4 ⊢
        go_wp2_with (fail)
        have hf := HT4.out.fail.1
        generalize (textO st n).2 = st2 at HS4 HT4 hf
        clear HS HT HB HS3 HB3 HT3 HSd HTd HBd
        cases st2 with
        | none =>
          have hf2 : w4.cell? ⟨g2, 1, none⟩ = some (.bool true) := hf
          clear hf
          go_quiet (first
            | (go_at_call 47; refine (okO w _ g none (HS4.out.below (pw_below_drewN (Below.refl _ _) _))).mono ?_; rintro e w' ⟨rfl, rfl⟩; exact ⟨rfl, _, rfl⟩)
            | (go_at_call 48; refine (leftO_ w _ g none (HS4.out.below (pw_below_drewN (Below.refl _ _) _))).mono ?_; rintro e w' ⟨rfl, rfl⟩; exact ⟨rfl, _, rfl⟩)
            | (go_at_call 49; refine (Rf.left_ w _ g2 none (HT4.out.below (pw_below_drewN (Below.refl _ _) _))).mono ?_; rintro e w' ⟨rfl, rfl⟩; exact ⟨rfl, _, rfl⟩))
          go_wp2
          go_roundw
          case rel => exact ⟨k + 1, none, by omega, by go_num, HS4.out.below (pw_below_drewN (Below.refl _ _) _), HT4.out.below (pw_below_drewN (Below.refl _ _) _), pw_below_drewN HB4.out _⟩
          case measure => simp [intOf]; omega
        | some bs =>
          have hf2 : w4.cell? ⟨g2, 1, none⟩ = some (.bool false) := hf
          clear hf
          go_quiet (first
            | (go_at_call 47; refine (okO w _ g (some bs) (HS4.out.below (pw_below_drewN (Below.refl _ _) _))).mono ?_; rintro e w' ⟨rfl, rfl⟩; exact ⟨rfl, _, rfl⟩)
            | (go_at_call 48; refine (leftO_ w _ g (some bs) (HS4.out.below (pw_below_drewN (Below.refl _ _) _))).mono ?_; rintro e w' ⟨rfl, rfl⟩; exact ⟨rfl, _, rfl⟩)
            | (go_at_call 49; refine (Rf.left_ w _ g2 (some bs) (HT4.out.below (pw_below_drewN (Below.refl _ _) _))).mono ?_; rintro e w' ⟨rfl, rfl⟩; exact ⟨rfl, _, rfl⟩))
          go_wp2
          go_roundw
          case rel => exact ⟨k + 1, (some bs), by omega, by go_num, HS4.out.below (pw_below_drewN (Below.refl _ _) _), HT4.out.below (pw_below_drewN (Below.refl _ _) _), pw_below_drewN HB4.out _⟩
          case measure => simp [intOf]; omega
      by_cases hk4 : kd = 4
      · subst hk4
        clear hk0 hk1 hk2 hk3
        have HLN := Aside0.mk (takeO_len (st := st) (N := 140737488355328) (by omega) (fun bs e => by subst e; exact HS.out.u8.2) n)
        go_wp2_with (fail)
        have HSd := Aside0.mk (HS.out.below (below_drew1 (Below.refl _ _)))
        have HTd := Aside0.mk (HT.out.below (below_drew1 (Below.refl _ _)))
        have HBd := Aside0.mk (below_drew1 HB.out)
        go_region_held3 (fun w' => w'.cell? ⟨(ad.add (k * 2)).block, (ad.add (k * 2)).off + 1, none⟩ = some (.int .i64 n)) (first | assumption | (simp [*]; done))
          (first
          | (go_at_call 45; refine (takeO_ _ _ _ _ n HSd.out HBd.out).mono ?_; rintro e w3 ⟨v, rfl, ho, hl⟩; have hc3 := (hl.2.1.cell (World.block_lt_of_cell? w _ HX1.out)).trans HX1.out; have HS3 := Aside0.mk hl.1; have HB3 := Aside0.mk hl.2.1; have HT3 := Aside0.mk (keepT HSd.out HTd.out HNE.out hl); clear hl; obtain ⟨Ax, cx, rfl, hl_, hr_⟩ := Ob.reads ho; have HRx := Aside0.mk hr_; have HLx := Aside0.mk hl_; clear ho hl_ hr_)
          | (go_at_call 46; refine (Rf.takeO_ _ _ _ _ n HT3.out HB3.out).mono ?_; rintro e w4 ⟨v, rfl, ho, hl⟩; have hc4 := (hl.2.1.cell (World.block_lt_of_cell? w _ HX1.out)).trans HX1.out; have HT4 := Aside0.mk hl.1; have HB4 := Aside0.mk hl.2.1; have HS4 := Aside0.mk (keepS HT3.out HS3.out HNE.out hl); have n3_ := Aside0.mk (reads_keep HRx.out hl.2.2 (by obtain ⟨_, _, cs, hb, hcs⟩ := HT3.out.blk; exact reads_ne hb hcs HRx.out)); clear hl HRx; have HRx := n3_; clear n3_; obtain ⟨Az, cz, rfl, hl_, hr_⟩ := Ob.reads ho; have HRz := Aside0.mk hr_; have HLz := Aside0.mk hl_; clear ho hl_ hr_)
          | (go_at_call 18; refine (same_c Ax cx (takeO st n).1 Az cz (takeO st n).1 _ HRx.out HLx.out HRz.out HLz.out (by have := HLN.out; omega)).mono ?_; rintro e w5 ⟨rfl, hd⟩; have hb := Drawn0.below hd; have hc5 := (hb.cell (World.block_lt_of_cell? w4 _ hc4)).trans hc4; have HS5 := Aside0.mk (HS4.out.below hb); have HT5 := Aside0.mk (HT4.out.below hb); have HB5 := Aside0.mk (below_step HB4.out hb); clear hd hb))
        clear hc0 hc1 hc3 hc4 hc5 HS4 HT4 HB4 HRx HRz HLx HLz
        have HS4 := HS5
        have HT4 := HT5
        have HB4 := HB5
        clear HS5 HT5 HB5
        generalize w5 = w4 at HS4 HT4 HB4 ⊢
        go_wp2_with (fail)
        have hf := HT4.out.fail.1
        generalize (takeO st n).2 = st2 at HS4 HT4 hf
        clear HS HT HB HS3 HB3 HT3 HSd HTd HBd
        cases st2 with
        | none =>
          have hf2 : w4.cell? ⟨g2, 1, none⟩ = some (.bool true) := hf
          clear hf
          go_quiet (first
            | (go_at_call 47; refine (okO w _ g none (HS4.out.below (pw_below_drewN (Below.refl _ _) _))).mono ?_; rintro e w' ⟨rfl, rfl⟩; exact ⟨rfl, _, rfl⟩)
            | (go_at_call 48; refine (leftO_ w _ g none (HS4.out.below (pw_below_drewN (Below.refl _ _) _))).mono ?_; rintro e w' ⟨rfl, rfl⟩; exact ⟨rfl, _, rfl⟩)
            | (go_at_call 49; refine (Rf.left_ w _ g2 none (HT4.out.below (pw_below_drewN (Below.refl _ _) _))).mono ?_; rintro e w' ⟨rfl, rfl⟩; exact ⟨rfl, _, rfl⟩))
          go_wp2
          go_roundw
          case rel => exact ⟨k + 1, none, by omega, by go_num, HS4.out.below (pw_below_drewN (Below.refl _ _) _), HT4.out.below (pw_below_drewN (Below.refl _ _) _), pw_below_drewN HB4.out _⟩
          case measure => simp [intOf]; omega
        | some bs =>
          have hf2 : w4.cell? ⟨g2, 1, none⟩ = some (.bool false) := hf
          clear hf
          go_quiet (first
            | (go_at_call 47; refine (okO w _ g (some bs) (HS4.out.below (pw_below_drewN (Below.refl _ _) _))).mono ?_; rintro e w' ⟨rfl, rfl⟩; exact ⟨rfl, _, rfl⟩)
            | (go_at_call 48; refine (leftO_ w _ g (some bs) (HS4.out.below (pw_below_drewN (Below.refl _ _) _))).mono ?_; rintro e w' ⟨rfl, rfl⟩; exact ⟨rfl, _, rfl⟩)
            | (go_at_call 49; refine (Rf.left_ w _ g2 (some bs) (HT4.out.below (pw_below_drewN (Below.refl _ _) _))).mono ?_; rintro e w' ⟨rfl, rfl⟩; exact ⟨rfl, _, rfl⟩))
          go_wp2
          go_roundw
          case rel => exact ⟨k + 1, (some bs), by omega, by go_num, HS4.out.below (pw_below_drewN (Below.refl _ _) _), HT4.out.below (pw_below_drewN (Below.refl _ _) _), pw_below_drewN HB4.out _⟩
          case measure => simp [intOf]; omega
      have e0 : (kd == 0) = false := by simpa using hk0
      have e1 : (kd == 1) = false := by simpa using hk1
      have e2 : (kd == 2) = false := by simpa using hk2
      have e3 : (kd == 3) = false := by simpa using hk3
      have e4 : (kd == 4) = false := by simpa using hk4
      clear hk0 hk1 hk2 hk3 hk4
      go_wp2_with (fail)
      clear e0 e1 e2 e3 e4 hc0 hc1
      have HS4 := HS
      have HT4 := HT
      have HB4 := HB
      clear HS HT HB
      generalize wr = w4 at HS4 HT4 HB4 ⊢
      have hf := HT4.out.fail.1
      generalize st = st2 at HS4 HT4 hf
      
      cases st2 with
      | none =>
        have hf2 : w4.cell? ⟨g2, 1, none⟩ = some (.bool true) := hf
        clear hf
        go_quiet (first
          | (go_at_call 47; refine (okO w _ g none (HS4.out.below (pw_below_drewN (Below.refl _ _) _))).mono ?_; rintro e w' ⟨rfl, rfl⟩; exact ⟨rfl, _, rfl⟩)
          | (go_at_call 48; refine (leftO_ w _ g none (HS4.out.below (pw_below_drewN (Below.refl _ _) _))).mono ?_; rintro e w' ⟨rfl, rfl⟩; exact ⟨rfl, _, rfl⟩)
          | (go_at_call 49; refine (Rf.left_ w _ g2 none (HT4.out.below (pw_below_drewN (Below.refl _ _) _))).mono ?_; rintro e w' ⟨rfl, rfl⟩; exact ⟨rfl, _, rfl⟩))
        go_wp2
        go_roundw
        case rel => exact ⟨k + 1, none, by omega, by go_num, HS4.out.below (pw_below_drewN (Below.refl _ _) _), HT4.out.below (pw_below_drewN (Below.refl _ _) _), pw_below_drewN HB4.out _⟩
        case measure => simp [intOf]; omega
      | some bs =>
        have hf2 : w4.cell? ⟨g2, 1, none⟩ = some (.bool false) := hf
        clear hf
        go_quiet (first
          | (go_at_call 47; refine (okO w _ g (some bs) (HS4.out.below (pw_below_drewN (Below.refl _ _) _))).mono ?_; rintro e w' ⟨rfl, rfl⟩; exact ⟨rfl, _, rfl⟩)
          | (go_at_call 48; refine (leftO_ w _ g (some bs) (HS4.out.below (pw_below_drewN (Below.refl _ _) _))).mono ?_; rintro e w' ⟨rfl, rfl⟩; exact ⟨rfl, _, rfl⟩)
          | (go_at_call 49; refine (Rf.left_ w _ g2 (some bs) (HT4.out.below (pw_below_drewN (Below.refl _ _) _))).mono ?_; rintro e w' ⟨rfl, rfl⟩; exact ⟨rfl, _, rfl⟩))
        go_wp2
        go_roundw
        case rel => exact ⟨k + 1, (some bs), by omega, by go_num, HS4.out.below (pw_below_drewN (Below.refl _ _) _), HT4.out.below (pw_below_drewN (Below.refl _ _) _), pw_below_drewN HB4.out _⟩
        case measure => simp [intOf]; omega
    · go_wp2_with (go_at_call 35; refine (live_c _).mono ?_; rintro e w3 ⟨rfl, hb⟩; have HF := Aside0.mk (below_step HB.out hb); clear hb)
      go_ret
      exact ⟨rfl, HF.out⟩
theorem walk (w : World) (A1 : Option Addr) (c1 : Nat) (b : List Int) (hr1 : Rb w A1 b) (hc1 : b.length ≤ c1) (ok1 : ∀ x ∈ b, (Lit.int .u8 x).wf = true) (A2 : Option Addr) (c2 : Nat) (l : List (Int × Int)) (hr2 : Kd.C AK w A2 l.length l) (_ : l.length ≤ c2) (ok2 : ∀ x ∈ l, (Lit.int .i64 x.1).wf = true ∧ (Lit.int .i64 x.2).wf = true) :
    Calls Try.prog 7 #[.slice A1 b.length c1, .slice A2 l.length c2] w fun e w' => e = .returned (.bool true) ∧ Below w.heap.size w w' := by
  by_cases h : 2000 < b.length ∨ 100 < l.length
  · exact long w b l A1 A2 c1 c2 h
  · exact short w b l A1 A2 c1 c2 (by omega) (by omega) hr1 hc1 (u8_wf ok1) hr2 (fun x hx => (i64_wf (ok2 x hx).2).2)
end Go.Proofs.Ytobljmgoengofaa.TlvReads
