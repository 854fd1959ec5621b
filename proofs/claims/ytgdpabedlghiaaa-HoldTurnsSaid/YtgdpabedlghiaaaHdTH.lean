/- Own and printed texts, laid together. -/
import Derived.Test.YtgdpabedlghiaaaHdTG
import Derived.Test.YtgdpabedlghiaaaHdTD
/- The document's Amend over holds, walked. -/
namespace Go.Proofs.Ytgdpabedlghiaaa.Scope
set_option linter.unusedVariables false
set_option linter.unusedSimpArgs false
open Go.RowKit Go.Proofs.YtgdpabedlghiaaaW.PrintWords Go.Proofs.YtgdpabedlghiaaaW.PrintLast Go.Proofs.YtgdpabedlghiaaaW.PrintMore Go.Proofs.Ytgdpabedlghiaaa.PZ Go.Proofs.Ytgdpabedlghiaaa.Aid
theorem rmay_c (x : S40) (hs : short x) (hN : nodes x ≤ 60) (B : Option Addr) (d : Nat) (w : World) (hx : Kd.C k40 w B x.f4.length x.f4) (hd : x.f4.length ≤ d) : Calls Try.prog 68 #[.agg #[.int .i64 x.f0, .string x.f1, .int .i64 x.f2, .int .i64 x.f3, .slice B x.f4.length d]] w fun e w' => e = .returned (.bool (mayB x)) ∧ Below w.heap.size w w' := by
  obtain ⟨k, h⟩ := (May_ev x hs hN).rounds
  exact hanaperref20_May.calls k x.f0 x.f1 x.f2 x.f3 B d x.f4 _ w hx hd h
/-- What the document's Amend answers. -/
def ramdB (l : List S52) (id : ByteArray) (x : S40) : List S52 × Int := if Name.nameB id = false then ([], 1) else if mayB x = false then ([], 1) else turnB (fun h => ⟨id, x, true⟩) l id
set_option maxHeartbeats 4000000 in
set_option maxRecDepth 100000 in
theorem ramd_c (l : List S52) (id : ByteArray) (x : S40) (A : Option Addr) (c : Nat) (B : Option Addr) (d : Nat) (w : World) (hr : Kd.C k52 w A l.length l) (hlen : l.length ≤ 1000) (hc : l.length ≤ c) (hi : id.size ≤ 100) (hx : Kd.C k40 w B x.f4.length x.f4) (hd : x.f4.length ≤ d) (hs : short x) (hN : nodes x ≤ 60) :
    Calls Try.prog 41 #[.slice A l.length c, .string id, .agg #[.int .i64 x.f0, .string x.f1, .int .i64 x.f2, .int .i64 x.f3, .slice B x.f4.length d]] w fun e w' => ∃ D m, e = .returned (.tuple #[.slice D (ramdB l id x).1.length m, .int .i64 (ramdB l id x).2]) ∧ (ramdB l id x).1.length ≤ m ∧ Kd.C k52 w' D (ramdB l id x).1.length (ramdB l id x).1 ∧ Below w.heap.size w w' := by
  have HB := Aside0.mk (below_alloc (Below.refl w.heap.size w) (.cells #[.int .i64 x.f0, .string x.f1, .int .i64 x.f2, .int .i64 x.f3, .slice B x.f4.length d] 40))
  have HG := Aside0.mk (show Blk (w.alloc (.cells #[.int .i64 x.f0, .string x.f1, .int .i64 x.f2, .int .i64 x.f3, .slice B x.f4.length d] 40)) w.heap.size 40 #[.int .i64 x.f0, .string x.f1, .int .i64 x.f2, .int .i64 x.f3, .slice B x.f4.length d] from blk_new _ _)
  have HR := Aside0.mk hr
  have HX := Aside0.mk hx
  have HF := Aside0.mk (fun W (h : Kd.C k52 W A l.length l) => rfind_c l id A c W h hc hlen)
  have HN := Aside0.mk (fun W => rname_c id hi W)
  have HMY := Aside0.mk (fun W (h : Kd.C k40 W B x.f4.length x.f4) => rmay_c x hs hN B d W h hd)
  have HFL := Aside0.mk (findB_lt l id)
  have hu50 := Try.underlying50
  have hu52 := Try.underlying52
  have hu40 := Try.underlying40
  obtain ⟨f, hf⟩ : ∃ f, findB l id = f := ⟨_, rfl⟩
  rw [hf] at HF HFL
  unfold ramdB
  cases hn : Name.nameB id with
  | false =>
    rw [hn] at HN
    rw [if_pos rfl]
    clear hn hf
    go_enter Try.func41, Try.ntmps41
    go_wp2_with ((go_at_call 22; refine (HN.out _).mono ?_; rintro e w1 ⟨rfl, hb⟩; have HG1 := Aside0.mk (HG.out.below hb); have d0 := HG1.out.cell 0; have d1 := HG1.out.cell 1; have d2 := HG1.out.cell 2; have d3 := HG1.out.cell 3; have d4 := HG1.out.cell 4; simp only [List.getElem?_toArray, List.getElem?_cons_zero, List.getElem?_cons_succ] at d0 d1 d2 d3 d4; have HB1 := Aside0.mk (below_step HB.out hb); clear hb))
    go_ret2
    exact ⟨none, 0, rfl, Nat.le_refl _, Kd.C_nil _ _, HB1.out⟩
  | true =>
    rw [hn] at HN
    rw [if_neg (by decide)]
    cases hm : mayB x with
    | false =>
      rw [hm] at HMY
      rw [if_pos rfl]
      clear hn hf hm
      go_enter Try.func41, Try.ntmps41
      go_wp2_with (first
        | (go_at_call 22; refine (HN.out _).mono ?_; rintro e w1 ⟨rfl, hb⟩; have HG1 := Aside0.mk (HG.out.below hb); have d0 := HG1.out.cell 0; have d1 := HG1.out.cell 1; have d2 := HG1.out.cell 2; have d3 := HG1.out.cell 3; have d4 := HG1.out.cell 4; simp only [List.getElem?_toArray, List.getElem?_cons_zero, List.getElem?_cons_succ] at d0 d1 d2 d3 d4; have HB1 := Aside0.mk (below_step HB.out hb); clear hb)
        | (go_at_call 68; refine (HMY.out _ (Kd.C_below HX.out HB1.out)).mono ?_; rintro e w2 ⟨rfl, hb⟩; have HG2 := Aside0.mk (HG1.out.below hb); have HB2 := Aside0.mk (below_step HB1.out hb); clear hb))
      go_ret2
      exact ⟨none, 0, rfl, Nat.le_refl _, Kd.C_nil _ _, HB2.out⟩
    | true =>
    rw [hm] at HMY
    rw [if_neg (by decide)]
    by_cases c1 : f < 0
    · have z1 : decide (f < 0) = true := decide_eq_true c1
      rw [turnB_none _ l id hn hf c1]
      clear c1 hn hf hm
      go_enter Try.func41, Try.ntmps41
      go_wp2_with (first
        | (go_at_call 22; refine (HN.out _).mono ?_; rintro e w1 ⟨rfl, hb⟩; have HG1 := Aside0.mk (HG.out.below hb); have d0 := HG1.out.cell 0; have d1 := HG1.out.cell 1; have d2 := HG1.out.cell 2; have d3 := HG1.out.cell 3; have d4 := HG1.out.cell 4; simp only [List.getElem?_toArray, List.getElem?_cons_zero, List.getElem?_cons_succ] at d0 d1 d2 d3 d4; have HB1 := Aside0.mk (below_step HB.out hb); clear hb)
        | (go_at_call 68; refine (HMY.out _ (Kd.C_below HX.out HB1.out)).mono ?_; rintro e w2 ⟨rfl, hb⟩; have HG2 := Aside0.mk (HG1.out.below hb); have HB2 := Aside0.mk (below_step HB1.out hb); clear hb)
        | (go_at_call 83; refine (HF.out _ (Kd.C_below HR.out HB2.out)).mono ?_; rintro e w3 ⟨rfl, hb⟩; have HG3 := Aside0.mk (HG2.out.below hb); clear d0 d1 d2 d3 d4; have d0 := HG3.out.cell 0; have d1 := HG3.out.cell 1; have d2 := HG3.out.cell 2; have d3 := HG3.out.cell 3; have d4 := HG3.out.cell 4; simp only [List.getElem?_toArray, List.getElem?_cons_zero, List.getElem?_cons_succ] at d0 d1 d2 d3 d4; have HB3 := Aside0.mk (below_step HB2.out hb); clear hb))
      go_ret2
      exact ⟨none, 0, rfl, Nat.le_refl _, Kd.C_nil _ _, HB3.out⟩
    · obtain ⟨i, rfl⟩ := Int.eq_ofNat_of_zero_le (show (0 : Int) ≤ f by omega)
      have hlt : i < l.length := by have := HFL.out; omega
      have z1 : decide ((i : Int) < 0) = false := decide_eq_false c1
      obtain ⟨ad, A4, c4, rfl, hx0, hx1, hx2, hx3, hx4, hx5, hx6, hl4, hi4⟩ := at_T52 HR.out (i : Int) (by omega) (by omega)
      rw [rdT_nat l i hlt] at hx6
      have HXL := List.getElem?_eq_getElem hlt
      obtain ⟨h, hh⟩ : ∃ h, l[i] = h := ⟨_, rfl⟩
      rw [hh] at hx6 HXL
      simp only [Int.toNat_natCast] at hx6
      have HX6 := Aside0.mk hx6
      clear hx0 hx1 hx2 hx3 hx4 hx5 hx6 hl4 hi4 hh c1 HFL
      have p1 : (0 : Int) ≤ (i : Int) := by omega
      have p2 : (i : Int) < (l.length : Int) := by omega
      cases ha : h.f2 with
      | false =>
        rw [ha] at HX6
        rw [turnB_state _ l id hn hf HXL ha]
        clear hn hf ha hm
        go_enter Try.func41, Try.ntmps41
        go_wp2_with (first
          | (go_at_call 22; refine (HN.out _).mono ?_; rintro e w1 ⟨rfl, hb⟩; have HG1 := Aside0.mk (HG.out.below hb); have d0 := HG1.out.cell 0; have d1 := HG1.out.cell 1; have d2 := HG1.out.cell 2; have d3 := HG1.out.cell 3; have d4 := HG1.out.cell 4; simp only [List.getElem?_toArray, List.getElem?_cons_zero, List.getElem?_cons_succ] at d0 d1 d2 d3 d4; have HB1 := Aside0.mk (below_step HB.out hb); clear hb)
          | (go_at_call 68; refine (HMY.out _ (Kd.C_below HX.out HB1.out)).mono ?_; rintro e w2 ⟨rfl, hb⟩; have HG2 := Aside0.mk (HG1.out.below hb); have HB2 := Aside0.mk (below_step HB1.out hb); clear hb)
          | (go_at_call 83; refine (HF.out _ (Kd.C_below HR.out HB2.out)).mono ?_; rintro e w3 ⟨rfl, hb⟩; have HG3 := Aside0.mk (HG2.out.below hb); clear d0 d1 d2 d3 d4; have d0 := HG3.out.cell 0; have d1 := HG3.out.cell 1; have d2 := HG3.out.cell 2; have d3 := HG3.out.cell 3; have d4 := HG3.out.cell 4; simp only [List.getElem?_toArray, List.getElem?_cons_zero, List.getElem?_cons_succ] at d0 d1 d2 d3 d4; have HB3 := Aside0.mk (below_step HB2.out hb); have hx6 := (HB3.out.cell (World.block_lt_of_cell? _ _ HX6.out)).trans HX6.out; clear hb))
        go_ret2
        exact ⟨none, 0, rfl, Nat.le_refl _, Kd.C_nil _ _, HB3.out⟩
      | true =>
        rw [ha] at HX6
        rw [turnB_ok _ l id hn hf HXL ha]
        clear hn hf ha HXL hm
        have HT := Aside0.mk (fun W (h1 : Kd.C k52 W (some ad) l.length l) (h2 : Kd.C k40 W B x.f4.length x.f4) => turned_c l i ⟨id, x, true⟩ (some ad) c B d W h1 hc h2 hd hlen hlt)
        dsimp only at HT
        obtain ⟨l2, hl2⟩ : ∃ l2, l.set i ⟨id, x, true⟩ = l2 := ⟨_, rfl⟩
        rw [hl2] at HT ⊢
        clear hl2
        go_enter Try.func41, Try.ntmps41
        go_wp2_with (first
          | (go_at_call 22; refine (HN.out _).mono ?_; rintro e w1 ⟨rfl, hb⟩; have HG1 := Aside0.mk (HG.out.below hb); have d0 := HG1.out.cell 0; have d1 := HG1.out.cell 1; have d2 := HG1.out.cell 2; have d3 := HG1.out.cell 3; have d4 := HG1.out.cell 4; simp only [List.getElem?_toArray, List.getElem?_cons_zero, List.getElem?_cons_succ] at d0 d1 d2 d3 d4; have HB1 := Aside0.mk (below_step HB.out hb); clear hb)
          | (go_at_call 68; refine (HMY.out _ (Kd.C_below HX.out HB1.out)).mono ?_; rintro e w2 ⟨rfl, hb⟩; have HG2 := Aside0.mk (HG1.out.below hb); have HB2 := Aside0.mk (below_step HB1.out hb); clear hb)
          | (go_at_call 83; refine (HF.out _ (Kd.C_below HR.out HB2.out)).mono ?_; rintro e w3 ⟨rfl, hb⟩; have HG3 := Aside0.mk (HG2.out.below hb); clear d0 d1 d2 d3 d4; have d0 := HG3.out.cell 0; have d1 := HG3.out.cell 1; have d2 := HG3.out.cell 2; have d3 := HG3.out.cell 3; have d4 := HG3.out.cell 4; simp only [List.getElem?_toArray, List.getElem?_cons_zero, List.getElem?_cons_succ] at d0 d1 d2 d3 d4; have HB3 := Aside0.mk (below_step HB2.out hb); have hx6 := (HB3.out.cell (World.block_lt_of_cell? _ _ HX6.out)).trans HX6.out; clear hb)
          | (go_at_call 84; refine (HT.out _ (Kd.C_below HR.out HB3.out) (Kd.C_below HX.out HB3.out)).mono ?_; rintro e w4 ⟨D, m, rfl, h1, h2, h3⟩; have HV := Aside0.mk (And.intro h1 (And.intro h2 (below_step HB3.out h3))); clear h1 h2 h3))
        go_ret2
        exact ⟨D, m, rfl, HV.out.1, HV.out.2.1, HV.out.2.2⟩
end Go.Proofs.Ytgdpabedlghiaaa.Scope
/- The example of layer 22. -/
namespace Go.Proofs.Ytgdpabedlghiaaa.Scope
set_option linter.unusedVariables false
set_option linter.unusedSimpArgs false
open Go.RowKit Go.Proofs.YtgdpabedlghiaaaW.PrintWords Go.Proofs.YtgdpabedlghiaaaW.PrintLast Go.Proofs.YtgdpabedlghiaaaW.PrintMore Go.Proofs.Ytgdpabedlghiaaa.PZ Go.Proofs.Ytgdpabedlghiaaa.Aid
def allS : S40 := ⟨1, ⟨#[]⟩, 0, 0, []⟩
def holdA (b : Bool) : S52 := ⟨⟨#[97]⟩, allS, b⟩
theorem place_live : placeB [] ⟨#[97]⟩ allS = ([holdA true], 0) := by
  have h1 : Name.nameB ⟨#[97]⟩ = true := by decide +kernel
  have h2 : mayB allS = true := by decide +kernel
  unfold placeB
  rw [if_neg (by rw [h1]; decide), if_neg (by rw [h2]; decide), if_neg (by decide +kernel), if_neg (by decide)]
  rfl
theorem rel_live : relB [holdA true] ⟨#[97]⟩ = ([holdA false], 0) :=
  turnB_ok offH [holdA true] ⟨#[97]⟩ (by decide +kernel) (i := 0) (by decide +kernel) (x := holdA true) rfl rfl
theorem held_live1 : [holdA true].any (holdsB ⟨#[]⟩ ⟨#[]⟩ ⟨#[]⟩ 0) = true := by decide +kernel
theorem held_live2 : [holdA false].any (holdsB ⟨#[]⟩ ⟨#[]⟩ ⟨#[]⟩ 0) = false := by decide +kernel
set_option maxHeartbeats 4000000 in
set_option maxRecDepth 100000 in
theorem live22_c (w : World) : Calls Try.prog 33 #[] w fun e w' => e = .returned (.bool true) ∧ Below w.heap.size w w' := by
  have HP := Aside0.mk (place_c [] ⟨#[97]⟩ allS none 0 none 0 w (Kd.C_nil _ _) (Nat.le_refl _) (Kd.C_nil _ _) (Nat.le_refl _))
  rw [place_live] at HP
  have HREL := Aside0.mk (fun A c W (h : Kd.C k52 W A 1 [holdA true]) (hc : 1 ≤ c) => release_c [holdA true] ⟨#[97]⟩ A c W h (by decide) hc)
  rw [rel_live] at HREL
  have HH1 := Aside0.mk (fun A c W (h : Kd.C k52 W A 1 [holdA true]) => held_c [holdA true] ⟨#[]⟩ ⟨#[]⟩ ⟨#[]⟩ ⟨#[]⟩ 0 0 A c W h)
  rw [held_live1] at HH1
  have HH2 := Aside0.mk (fun A c W (h : Kd.C k52 W A 1 [holdA false]) => held_c [holdA false] ⟨#[]⟩ ⟨#[]⟩ ⟨#[]⟩ ⟨#[]⟩ 0 0 A c W h)
  rw [held_live2] at HH2
  have hu50 := Try.underlying50
  have hu46 := Try.underlying46
  have hu40 := Try.underlying40
  go_enter Try.func33, Try.ntmps33
  go_wp2_with (first
    | (go_at_call 35; refine HP.out.mono ?_; rintro e w1 ⟨D, m, rfl, h1, h2, h3⟩; have HD := Aside0.mk h2; have HM := Aside0.mk h1; have HB := Aside0.mk h3; clear h1 h2 h3)
    | (go_at_call 37; refine (HREL.out D m w1 HD.out HM.out).mono ?_; rintro e w2 ⟨E, n, rfl, h1, h2, h3⟩; have HD2 := Aside0.mk (Kd.C_below HD.out h3); have HE2 := Aside0.mk h2; have HB2 := Aside0.mk (below_step HB.out h3); clear h1 h2 h3)
    | (go_at_call 36; (first | (refine (num22_c 0 w2).mono ?_; rintro e w3 ⟨rfl, h3⟩; have HD3 := Aside0.mk (Kd.C_below HD2.out h3); have HE3 := Aside0.mk (Kd.C_below HE2.out h3); have HB3 := Aside0.mk (below_step HB2.out h3); clear h3) | (refine (num22_c 0 w3).mono ?_; rintro e w4 ⟨rfl, h3⟩; have HD4 := Aside0.mk (Kd.C_below HD3.out h3); have HE4 := Aside0.mk (Kd.C_below HE3.out h3); have HB4 := Aside0.mk (below_step HB3.out h3); clear h3)))
    | (go_at_call 34; (first | (refine (HH1.out D m w4 HD4.out).mono ?_; rintro e w5 ⟨rfl, h3⟩; have HE5 := Aside0.mk (Kd.C_below HE4.out h3); have HB5 := Aside0.mk (below_step HB4.out h3); clear h3) | (refine (HH2.out E n w5 HE5.out).mono ?_; rintro e w6 ⟨rfl, h3⟩; have HB6 := Aside0.mk (below_step HB5.out h3); clear h3))))
  go_ret
  exact ⟨rfl, HB6.out⟩
end Go.Proofs.Ytgdpabedlghiaaa.Scope
/- HoldTurns: the law's walk (printed by gen_hturns.py). -/
namespace Go.Proofs.Ytgdpabedlghiaaa.Scope
set_option linter.unusedVariables false
set_option linter.unusedSimpArgs false
open Go.RowKit Go.Proofs.YtgdpabedlghiaaaW.PrintWords Go.Proofs.YtgdpabedlghiaaaW.PrintLast Go.Proofs.YtgdpabedlghiaaaW.PrintMore Go.Proofs.Ytgdpabedlghiaaa.PZ Go.Proofs.Ytgdpabedlghiaaa.Aid
/-- Two rows of holds that the document's Same cannot tell apart. -/
def Alike (a b : List S52) : Prop := a.length = b.length ∧ a.length ≤ 1000 ∧ ∀ (j : Nat) (x y : S52), a[j]? = some x → b[j]? = some y → x.f0.toList = y.f0.toList ∧ x.f1 = y.f1 ∧ x.f2 = y.f2 ∧ nodes x.f1 ≤ 60
theorem alike_refl {a : List S52} (hm : a.length ≤ 1000) (h : ∀ x ∈ a, nodes x.f1 ≤ 60) : Alike a a :=
  ⟨rfl, hm, fun j x y h1 h2 => by rw [h1] at h2; obtain rfl := Option.some.inj h2; exact ⟨rfl, rfl, rfl, h x (List.mem_of_getElem? h1)⟩⟩
theorem turn_alike (f g : S52 → S52) (l : List S52) (id : ByteArray) (hm : l.length ≤ 1000) (hl : ∀ h ∈ l, nodes h.f1 ≤ 60) (hfg : ∀ h ∈ l, h.f2 = true → h.f0.toList = id.toList → (f h).f0.toList = (g h).f0.toList ∧ (f h).f1 = (g h).f1 ∧ (f h).f2 = (g h).f2 ∧ nodes (f h).f1 ≤ 60) : (turnB f l id).2 = (turnB g l id).2 ∧ Alike (turnB f l id).1 (turnB g l id).1 := by
  have nil : Alike [] [] := alike_refl (by simp) (fun x h => by cases h)
  cases hn : Name.nameB id with
  | false => rw [turnB_bad f l id hn, turnB_bad g l id hn]; exact ⟨rfl, nil⟩
  | true =>
    by_cases c : findB l id < 0
    · rw [turnB_none f l id hn rfl c, turnB_none g l id hn rfl c]; exact ⟨rfl, nil⟩
    · obtain ⟨i, hi⟩ := Int.eq_ofNat_of_zero_le (show (0 : Int) ≤ findB l id by omega)
      obtain ⟨x, hx, hid⟩ := find_hit hi
      cases ha : x.f2 with
      | false => rw [turnB_state f l id hn hi hx ha, turnB_state g l id hn hi hx ha]; exact ⟨rfl, nil⟩
      | true =>
        rw [turnB_ok f l id hn hi hx ha, turnB_ok g l id hn hi hx ha]
        have hlt := (List.getElem?_eq_some_iff.1 hx).1
        refine ⟨rfl, by simp, by simpa using hm, fun j y z hy hz => ?_⟩
        by_cases hij : i = j
        · subst hij
          rw [List.getElem?_set_self hlt] at hy hz
          obtain rfl := Option.some.inj hy
          obtain rfl := Option.some.inj hz
          exact hfg x (List.mem_of_getElem? hx) ha hid
        · rw [List.getElem?_set_ne hij] at hy hz
          rw [hy] at hz
          obtain rfl := Option.some.inj hz
          exact ⟨rfl, rfl, rfl, hl y (List.mem_of_getElem? hy)⟩
theorem rel_alike (l : List S52) (id : ByteArray) (hm : l.length ≤ 1000) (hl : ∀ h ∈ l, nodes h.f1 ≤ 60) : (relB l id).2 = (turnB (fun h => ⟨id, h.f1, false⟩) l id).2 ∧ Alike (relB l id).1 (turnB (fun h => ⟨id, h.f1, false⟩) l id).1 :=
  turn_alike offH _ l id hm hl (fun h hh _ hid => ⟨hid, rfl, rfl, hl h hh⟩)
theorem amd_alike (l : List S52) (id : ByteArray) (x : S40) (hm : l.length ≤ 1000) (hl : ∀ h ∈ l, nodes h.f1 ≤ 60) (hx : nodes x ≤ 60) : (amdB l id x).2 = (ramdB l id x).2 ∧ Alike (amdB l id x).1 (ramdB l id x).1 := by
  have nil : Alike [] [] := alike_refl (by simp) (fun x h => by cases h)
  unfold amdB ramdB
  by_cases c1 : Name.nameB id = false
  · rw [if_pos c1, if_pos c1]; exact ⟨rfl, nil⟩
  rw [if_neg c1, if_neg c1]
  by_cases c2 : mayB x = false
  · rw [if_pos c2, if_pos c2]; exact ⟨rfl, nil⟩
  rw [if_neg c2, if_neg c2]
  exact turn_alike (onH x) _ l id hm hl (fun h hh ha hid => ⟨hid, rfl, ha, hx⟩)
theorem place_alike (l : List S52) (id : ByteArray) (x : S40) (hm : l.length ≤ 30) (hl : ∀ h ∈ l, nodes h.f1 ≤ 60) (hx : nodes x ≤ 60) : Alike (placeB l id x).1 (placeB l id x).1 := by
  have nil : Alike [] [] := alike_refl (by simp) (fun x h => by cases h)
  unfold placeB
  by_cases c1 : Name.nameB id = false
  · rw [if_pos c1]; exact nil
  rw [if_neg c1]
  by_cases c2 : mayB x = false
  · rw [if_pos c2]; exact nil
  rw [if_neg c2]
  by_cases c3 : findB l id ≥ 0
  · rw [if_pos c3]; exact nil
  rw [if_neg c3]
  by_cases c4 : (l.length : Int) ≥ 12
  · rw [if_pos c4]; exact nil
  rw [if_neg c4]
  refine alike_refl (by simp; omega) (fun y hy => ?_)
  rcases List.mem_append.1 hy with h | h
  · exact hl y h
  · simp at h; subst h; exact hx
theorem alike_c {a b : List S52} (h : Alike a b) (A : Option Addr) (c : Nat) (B : Option Addr) (d : Nat) (w : World) (hr : Kd.C k52 w A a.length a) (hc : a.length ≤ c) (hs : Kd.C k52 w B b.length b) (hd : b.length ≤ d) :
    Calls Try.prog 42 #[.slice A a.length c, .slice B b.length d] w fun e w' => e = .returned (.bool true) ∧ Below w.heap.size w w' := hsame_c a b h.1 h.2.1 h.2.2 A c B d w hr hc hs hd
set_option maxHeartbeats 16000000 in
set_option maxRecDepth 100000 in
theorem turns_walk (w : World) (l : List S52) (A : Option Addr) (c : Nat) (hr : Kd.C k52 w A l.length l) (hc : l.length ≤ c) (id : ByteArray) (x : S40) (B : Option Addr) (d : Nat) (hx : Kd.C k40 w B x.f4.length x.f4) (hd : x.f4.length ≤ d) :
    Calls Try.prog 8 #[.slice A l.length c, .string id, .agg #[.int .i64 x.f0, .string x.f1, .int .i64 x.f2, .int .i64 x.f3, .slice B x.f4.length d]] w fun e w' => e = .returned (.bool true) ∧ Below w.heap.size w w' := by
  obtain ⟨b, hsm, hsl⟩ := hsmall_c l
  obtain ⟨b2, hsc, hsx⟩ := scsmall_c x
  have HSM := Aside0.mk (fun W hh => hsm A c W hh hc)
  have HSC := Aside0.mk (fun W hh => hsc B d W hh hd)
  have HL := Aside0.mk hr
  have HX := Aside0.mk hx
  have H0 := Aside0.mk (show Blk (w.alloc (.cells #[.int .i64 x.f0, .string x.f1, .int .i64 x.f2, .int .i64 x.f3, .slice B x.f4.length d] 40)) w.heap.size 40 #[.int .i64 x.f0, .string x.f1, .int .i64 x.f2, .int .i64 x.f3, .slice B x.f4.length d] from blk_new _ _)
  have HB := Aside0.mk (show Below w.heap.size w (w.alloc (.cells #[.int .i64 x.f0, .string x.f1, .int .i64 x.f2, .int .i64 x.f3, .slice B x.f4.length d] 40)) from below_alloc (Below.refl _ _) _)
  have hu52 := Try.underlying52
  have hu50 := Try.underlying50
  have hu40 := Try.underlying40
  have e0 := H0.out.cell 0
  have e1 := H0.out.cell 1
  have e2 := H0.out.cell 2
  have e3 := H0.out.cell 3
  have e4 := H0.out.cell 4
  simp only [List.getElem?_toArray, List.getElem?_cons_zero, List.getElem?_cons_succ] at e0 e1 e2 e3 e4
  clear hsm hsc hr hx
  cases b with
  | false =>
    clear hsl hsx
    go_enter Try.func8, Try.ntmps8
    go_wp2_with (fail)
    refine (HSM.out _ (Kd.C_below HL.out HB.out)).mono ?_
    rintro e w1 ⟨rfl, hb⟩
    have H0n := Aside0.mk (H0.out.below hb)
    have HBn := Aside0.mk (below_step HB.out hb)
    clear H0 HB e0 e1 e2 e3 e4
    have H0 := H0n
    have HB := HBn
    clear H0n HBn
    have e0 := H0.out.cell 0
    have e1 := H0.out.cell 1
    have e2 := H0.out.cell 2
    have e3 := H0.out.cell 3
    have e4 := H0.out.cell 4
    simp only [List.getElem?_toArray, List.getElem?_cons_zero, List.getElem?_cons_succ] at e0 e1 e2 e3 e4
    clear hb
    go_wp2_with (fail)
    refine (live22_c _).mono ?_
    rintro e w1 ⟨rfl, hb⟩
    have H0n := Aside0.mk (H0.out.below hb)
    have HBn := Aside0.mk (below_step HB.out hb)
    clear H0 HB e0 e1 e2 e3 e4
    have H0 := H0n
    have HB := HBn
    clear H0n HBn
    have e0 := H0.out.cell 0
    have e1 := H0.out.cell 1
    have e2 := H0.out.cell 2
    have e3 := H0.out.cell 3
    have e4 := H0.out.cell 4
    simp only [List.getElem?_toArray, List.getElem?_cons_zero, List.getElem?_cons_succ] at e0 e1 e2 e3 e4
    clear hb
    go_wp2_with (fail)
    go_ret
    exact ⟨rfl, HB.out⟩
  | true =>
  obtain ⟨hl30, hlx⟩ := hsl rfl
  clear hsl
  by_cases c2 : (id.size : Int) > 100
  · have z2 : decide (100 < (id.size : Int)) = true := decide_eq_true c2
    have z3 : (100 < id.size) = True := eq_true (by omega)
    clear hsx hlx
    go_enter Try.func8, Try.ntmps8
    go_wp2_with (fail)
    refine (HSM.out _ (Kd.C_below HL.out HB.out)).mono ?_
    rintro e w1 ⟨rfl, hb⟩
    have H0n := Aside0.mk (H0.out.below hb)
    have HBn := Aside0.mk (below_step HB.out hb)
    clear H0 HB e0 e1 e2 e3 e4
    have H0 := H0n
    have HB := HBn
    clear H0n HBn
    have e0 := H0.out.cell 0
    have e1 := H0.out.cell 1
    have e2 := H0.out.cell 2
    have e3 := H0.out.cell 3
    have e4 := H0.out.cell 4
    simp only [List.getElem?_toArray, List.getElem?_cons_zero, List.getElem?_cons_succ] at e0 e1 e2 e3 e4
    clear hb
    go_wp2_with (fail)
    refine (live22_c _).mono ?_
    rintro e w1 ⟨rfl, hb⟩
    have H0n := Aside0.mk (H0.out.below hb)
    have HBn := Aside0.mk (below_step HB.out hb)
    clear H0 HB e0 e1 e2 e3 e4
    have H0 := H0n
    have HB := HBn
    clear H0n HBn
    have e0 := H0.out.cell 0
    have e1 := H0.out.cell 1
    have e2 := H0.out.cell 2
    have e3 := H0.out.cell 3
    have e4 := H0.out.cell 4
    simp only [List.getElem?_toArray, List.getElem?_cons_zero, List.getElem?_cons_succ] at e0 e1 e2 e3 e4
    clear hb
    go_wp2_with (fail)
    go_ret
    exact ⟨rfl, HB.out⟩
  have z2 : decide (100 < (id.size : Int)) = false := decide_eq_false c2
  have z3 : (100 < id.size) = False := eq_false (by omega)
  cases b2 with
  | false =>
    clear hsx hlx c2
    go_enter Try.func8, Try.ntmps8
    go_wp2_with (fail)
    refine (HSM.out _ (Kd.C_below HL.out HB.out)).mono ?_
    rintro e w1 ⟨rfl, hb⟩
    have H0n := Aside0.mk (H0.out.below hb)
    have HBn := Aside0.mk (below_step HB.out hb)
    clear H0 HB e0 e1 e2 e3 e4
    have H0 := H0n
    have HB := HBn
    clear H0n HBn
    have e0 := H0.out.cell 0
    have e1 := H0.out.cell 1
    have e2 := H0.out.cell 2
    have e3 := H0.out.cell 3
    have e4 := H0.out.cell 4
    simp only [List.getElem?_toArray, List.getElem?_cons_zero, List.getElem?_cons_succ] at e0 e1 e2 e3 e4
    clear hb
    go_wp2_with (fail)
    refine (HSC.out _ (Kd.C_below HX.out HB.out)).mono ?_
    rintro e w1 ⟨rfl, hb⟩
    have H0n := Aside0.mk (H0.out.below hb)
    have HBn := Aside0.mk (below_step HB.out hb)
    clear H0 HB e0 e1 e2 e3 e4
    have H0 := H0n
    have HB := HBn
    clear H0n HBn
    have e0 := H0.out.cell 0
    have e1 := H0.out.cell 1
    have e2 := H0.out.cell 2
    have e3 := H0.out.cell 3
    have e4 := H0.out.cell 4
    simp only [List.getElem?_toArray, List.getElem?_cons_zero, List.getElem?_cons_succ] at e0 e1 e2 e3 e4
    clear hb
    go_wp2_with (fail)
    refine (live22_c _).mono ?_
    rintro e w1 ⟨rfl, hb⟩
    have H0n := Aside0.mk (H0.out.below hb)
    have HBn := Aside0.mk (below_step HB.out hb)
    clear H0 HB e0 e1 e2 e3 e4
    have H0 := H0n
    have HB := HBn
    clear H0n HBn
    have e0 := H0.out.cell 0
    have e1 := H0.out.cell 1
    have e2 := H0.out.cell 2
    have e3 := H0.out.cell 3
    have e4 := H0.out.cell 4
    simp only [List.getElem?_toArray, List.getElem?_cons_zero, List.getElem?_cons_succ] at e0 e1 e2 e3 e4
    clear hb
    go_wp2_with (fail)
    go_ret
    exact ⟨rfl, HB.out⟩
  | true =>
  obtain ⟨hsh, hnx⟩ := hsx rfl
  have hl1 : ∀ h ∈ l, nodes h.f1 ≤ 60 := fun h hh => (hlx h hh).2.2
  have HPL := Aside0.mk (fun W (hh : Kd.C k52 W A l.length l) (hk : Kd.C k40 W B x.f4.length x.f4) => place_c l id x A c B d W hh hc hk hd)
  have HRPL := Aside0.mk (fun W (hh : Kd.C k52 W A l.length l) (hk : Kd.C k40 W B x.f4.length x.f4) => rplace_c l id x A c B d W hh hc hk hd (by omega) (by omega) hsh hnx)
  have HREL := Aside0.mk (fun W (hh : Kd.C k52 W A l.length l) => release_c l id A c W hh (by omega) hc)
  have HRREL := Aside0.mk (fun W (hh : Kd.C k52 W A l.length l) => rrel_c l id A c W hh (by omega) hc (by omega))
  have HAM := Aside0.mk (fun W (hh : Kd.C k52 W A l.length l) (hk : Kd.C k40 W B x.f4.length x.f4) => amend_c l id x A c B d W hh (by omega) hc hk hd)
  have HRAM := Aside0.mk (fun W (hh : Kd.C k52 W A l.length l) (hk : Kd.C k40 W B x.f4.length x.f4) => ramd_c l id x A c B d W hh (by omega) hc (by omega) hk hd hsh hnx)
  have g1 := place_alike l id x hl30 hl1 hnx
  obtain ⟨q2, g2⟩ := rel_alike l id (by omega) hl1
  obtain ⟨q3, g3⟩ := amd_alike l id x (by omega) hl1 hnx
  have HS1 := Aside0.mk (fun A c B d W h1 h2 h3 h4 => alike_c g1 A c B d W h1 h2 h3 h4)
  have HS2 := Aside0.mk (fun A c B d W h1 h2 h3 h4 => alike_c g2 A c B d W h1 h2 h3 h4)
  have HS3 := Aside0.mk (fun A c B d W h1 h2 h3 h4 => alike_c g3 A c B d W h1 h2 h3 h4)
  obtain ⟨v1, hv1⟩ : ∃ v, placeB l id x = v := ⟨_, rfl⟩
  obtain ⟨v2, hv2⟩ : ∃ v, relB l id = v := ⟨_, rfl⟩
  obtain ⟨v3, hv3⟩ : ∃ v, turnB (fun h => ⟨id, h.f1, false⟩) l id = v := ⟨_, rfl⟩
  obtain ⟨v4, hv4⟩ : ∃ v, amdB l id x = v := ⟨_, rfl⟩
  obtain ⟨v5, hv5⟩ : ∃ v, ramdB l id x = v := ⟨_, rfl⟩
  rw [hv1] at HPL HRPL HS1
  rw [hv2] at HREL HS2 q2
  rw [hv3] at HRREL HS2 q2
  rw [hv4] at HAM HS3 q3
  rw [hv5] at HRAM HS3 q3
  clear hv1 hv2 hv3 hv4 hv5 g1 g2 g3 hlx hl1 hsx c2 hsh hnx
  obtain ⟨p1, n1⟩ := v1
  obtain ⟨p2, n2⟩ := v2
  obtain ⟨p3, n3⟩ := v3
  obtain ⟨p4, n4⟩ := v4
  obtain ⟨p5, n5⟩ := v5
  dsimp only at q2 q3 HPL HRPL HREL HRREL HAM HRAM HS1 HS2 HS3
  subst q2
  subst q3
  go_enter Try.func8, Try.ntmps8
  go_wp2_with (fail)
  refine (HSM.out _ (Kd.C_below HL.out HB.out)).mono ?_
  rintro e w1 ⟨rfl, hb⟩
  have H0n := Aside0.mk (H0.out.below hb)
  have HBn := Aside0.mk (below_step HB.out hb)
  clear H0 HB e0 e1 e2 e3 e4
  have H0 := H0n
  have HB := HBn
  clear H0n HBn
  have e0 := H0.out.cell 0
  have e1 := H0.out.cell 1
  have e2 := H0.out.cell 2
  have e3 := H0.out.cell 3
  have e4 := H0.out.cell 4
  simp only [List.getElem?_toArray, List.getElem?_cons_zero, List.getElem?_cons_succ] at e0 e1 e2 e3 e4
  clear hb
  go_wp2_with (fail)
  refine (HSC.out _ (Kd.C_below HX.out HB.out)).mono ?_
  rintro e w1 ⟨rfl, hb⟩
  have H0n := Aside0.mk (H0.out.below hb)
  have HBn := Aside0.mk (below_step HB.out hb)
  clear H0 HB e0 e1 e2 e3 e4
  have H0 := H0n
  have HB := HBn
  clear H0n HBn
  have e0 := H0.out.cell 0
  have e1 := H0.out.cell 1
  have e2 := H0.out.cell 2
  have e3 := H0.out.cell 3
  have e4 := H0.out.cell 4
  simp only [List.getElem?_toArray, List.getElem?_cons_zero, List.getElem?_cons_succ] at e0 e1 e2 e3 e4
  clear hb
  go_wp2_with (fail)
  refine (HPL.out _ (Kd.C_below HL.out HB.out) (Kd.C_below HX.out HB.out)).mono ?_
  rintro e w1 ⟨DP, mP, rfl, hm, hq, hb⟩
  have HNEW := Aside0.mk hq
  have HMP := Aside0.mk hm
  clear hq hm
  have H0n := Aside0.mk (H0.out.below hb)
  have HBn := Aside0.mk (below_step HB.out hb)
  clear H0 HB e0 e1 e2 e3 e4
  have H0 := H0n
  have HB := HBn
  clear H0n HBn
  have e0 := H0.out.cell 0
  have e1 := H0.out.cell 1
  have e2 := H0.out.cell 2
  have e3 := H0.out.cell 3
  have e4 := H0.out.cell 4
  simp only [List.getElem?_toArray, List.getElem?_cons_zero, List.getElem?_cons_succ] at e0 e1 e2 e3 e4
  clear hb
  have HP := HNEW
  clear HNEW
  go_wp2_with (fail)
  refine (HRPL.out _ (Kd.C_below HL.out HB.out) (Kd.C_below HX.out HB.out)).mono ?_
  rintro e w1 ⟨DQ, mQ, rfl, hm, hq, hb⟩
  have HNEW := Aside0.mk hq
  have HMQ := Aside0.mk hm
  clear hq hm
  have H0n := Aside0.mk (H0.out.below hb)
  have HBn := Aside0.mk (below_step HB.out hb)
  have Hn := Aside0.mk (Kd.C_below HP.out hb)
  clear HP
  have HP := Hn
  clear Hn
  clear H0 HB e0 e1 e2 e3 e4
  have H0 := H0n
  have HB := HBn
  clear H0n HBn
  have e0 := H0.out.cell 0
  have e1 := H0.out.cell 1
  have e2 := H0.out.cell 2
  have e3 := H0.out.cell 3
  have e4 := H0.out.cell 4
  simp only [List.getElem?_toArray, List.getElem?_cons_zero, List.getElem?_cons_succ] at e0 e1 e2 e3 e4
  clear hb
  have HQ := HNEW
  clear HNEW
  go_wp2_with (fail)
  refine (HREL.out _ (Kd.C_below HL.out HB.out)).mono ?_
  rintro e w1 ⟨DR, mR, rfl, hm, hq, hb⟩
  have HNEW := Aside0.mk hq
  have HMR := Aside0.mk hm
  clear hq hm
  have H0n := Aside0.mk (H0.out.below hb)
  have HBn := Aside0.mk (below_step HB.out hb)
  have Hn := Aside0.mk (Kd.C_below HP.out hb)
  clear HP
  have HP := Hn
  clear Hn
  have Hn := Aside0.mk (Kd.C_below HQ.out hb)
  clear HQ
  have HQ := Hn
  clear Hn
  clear H0 HB e0 e1 e2 e3 e4
  have H0 := H0n
  have HB := HBn
  clear H0n HBn
  have e0 := H0.out.cell 0
  have e1 := H0.out.cell 1
  have e2 := H0.out.cell 2
  have e3 := H0.out.cell 3
  have e4 := H0.out.cell 4
  simp only [List.getElem?_toArray, List.getElem?_cons_zero, List.getElem?_cons_succ] at e0 e1 e2 e3 e4
  clear hb
  have HR := HNEW
  clear HNEW
  go_wp2_with (fail)
  refine (HRREL.out _ (Kd.C_below HL.out HB.out)).mono ?_
  rintro e w1 ⟨DS, mS, rfl, hm, hq, hb⟩
  have HNEW := Aside0.mk hq
  have HMS := Aside0.mk hm
  clear hq hm
  have H0n := Aside0.mk (H0.out.below hb)
  have HBn := Aside0.mk (below_step HB.out hb)
  have Hn := Aside0.mk (Kd.C_below HP.out hb)
  clear HP
  have HP := Hn
  clear Hn
  have Hn := Aside0.mk (Kd.C_below HQ.out hb)
  clear HQ
  have HQ := Hn
  clear Hn
  have Hn := Aside0.mk (Kd.C_below HR.out hb)
  clear HR
  have HR := Hn
  clear Hn
  clear H0 HB e0 e1 e2 e3 e4
  have H0 := H0n
  have HB := HBn
  clear H0n HBn
  have e0 := H0.out.cell 0
  have e1 := H0.out.cell 1
  have e2 := H0.out.cell 2
  have e3 := H0.out.cell 3
  have e4 := H0.out.cell 4
  simp only [List.getElem?_toArray, List.getElem?_cons_zero, List.getElem?_cons_succ] at e0 e1 e2 e3 e4
  clear hb
  have HS := HNEW
  clear HNEW
  go_wp2_with (fail)
  refine (HAM.out _ (Kd.C_below HL.out HB.out) (Kd.C_below HX.out HB.out)).mono ?_
  rintro e w1 ⟨DU, mU, rfl, hm, hq, hb⟩
  have HNEW := Aside0.mk hq
  have HMU := Aside0.mk hm
  clear hq hm
  have H0n := Aside0.mk (H0.out.below hb)
  have HBn := Aside0.mk (below_step HB.out hb)
  have Hn := Aside0.mk (Kd.C_below HP.out hb)
  clear HP
  have HP := Hn
  clear Hn
  have Hn := Aside0.mk (Kd.C_below HQ.out hb)
  clear HQ
  have HQ := Hn
  clear Hn
  have Hn := Aside0.mk (Kd.C_below HR.out hb)
  clear HR
  have HR := Hn
  clear Hn
  have Hn := Aside0.mk (Kd.C_below HS.out hb)
  clear HS
  have HS := Hn
  clear Hn
  clear H0 HB e0 e1 e2 e3 e4
  have H0 := H0n
  have HB := HBn
  clear H0n HBn
  have e0 := H0.out.cell 0
  have e1 := H0.out.cell 1
  have e2 := H0.out.cell 2
  have e3 := H0.out.cell 3
  have e4 := H0.out.cell 4
  simp only [List.getElem?_toArray, List.getElem?_cons_zero, List.getElem?_cons_succ] at e0 e1 e2 e3 e4
  clear hb
  have HU := HNEW
  clear HNEW
  go_wp2_with (fail)
  refine (HRAM.out _ (Kd.C_below HL.out HB.out) (Kd.C_below HX.out HB.out)).mono ?_
  rintro e w1 ⟨DV, mV, rfl, hm, hq, hb⟩
  have HNEW := Aside0.mk hq
  have HMV := Aside0.mk hm
  clear hq hm
  have H0n := Aside0.mk (H0.out.below hb)
  have HBn := Aside0.mk (below_step HB.out hb)
  have Hn := Aside0.mk (Kd.C_below HP.out hb)
  clear HP
  have HP := Hn
  clear Hn
  have Hn := Aside0.mk (Kd.C_below HQ.out hb)
  clear HQ
  have HQ := Hn
  clear Hn
  have Hn := Aside0.mk (Kd.C_below HR.out hb)
  clear HR
  have HR := Hn
  clear Hn
  have Hn := Aside0.mk (Kd.C_below HS.out hb)
  clear HS
  have HS := Hn
  clear Hn
  have Hn := Aside0.mk (Kd.C_below HU.out hb)
  clear HU
  have HU := Hn
  clear Hn
  clear H0 HB e0 e1 e2 e3 e4
  have H0 := H0n
  have HB := HBn
  clear H0n HBn
  have e0 := H0.out.cell 0
  have e1 := H0.out.cell 1
  have e2 := H0.out.cell 2
  have e3 := H0.out.cell 3
  have e4 := H0.out.cell 4
  simp only [List.getElem?_toArray, List.getElem?_cons_zero, List.getElem?_cons_succ] at e0 e1 e2 e3 e4
  clear hb
  have HV := HNEW
  clear HNEW
  go_wp2_with (fail)
  refine (HS1.out DP mP DQ mQ _ HP.out HMP.out HQ.out HMQ.out).mono ?_
  rintro e w1 ⟨rfl, hb⟩
  have H0n := Aside0.mk (H0.out.below hb)
  have HBn := Aside0.mk (below_step HB.out hb)
  have Hn := Aside0.mk (Kd.C_below HP.out hb)
  clear HP
  have HP := Hn
  clear Hn
  have Hn := Aside0.mk (Kd.C_below HQ.out hb)
  clear HQ
  have HQ := Hn
  clear Hn
  have Hn := Aside0.mk (Kd.C_below HR.out hb)
  clear HR
  have HR := Hn
  clear Hn
  have Hn := Aside0.mk (Kd.C_below HS.out hb)
  clear HS
  have HS := Hn
  clear Hn
  have Hn := Aside0.mk (Kd.C_below HU.out hb)
  clear HU
  have HU := Hn
  clear Hn
  have Hn := Aside0.mk (Kd.C_below HV.out hb)
  clear HV
  have HV := Hn
  clear Hn
  clear H0 HB e0 e1 e2 e3 e4
  have H0 := H0n
  have HB := HBn
  clear H0n HBn
  have e0 := H0.out.cell 0
  have e1 := H0.out.cell 1
  have e2 := H0.out.cell 2
  have e3 := H0.out.cell 3
  have e4 := H0.out.cell 4
  simp only [List.getElem?_toArray, List.getElem?_cons_zero, List.getElem?_cons_succ] at e0 e1 e2 e3 e4
  clear hb
  go_wp2_with (fail)
  refine (num22_c _ _).mono ?_
  rintro e w1 ⟨rfl, hb⟩
  have H0n := Aside0.mk (H0.out.below hb)
  have HBn := Aside0.mk (below_step HB.out hb)
  have Hn := Aside0.mk (Kd.C_below HP.out hb)
  clear HP
  have HP := Hn
  clear Hn
  have Hn := Aside0.mk (Kd.C_below HQ.out hb)
  clear HQ
  have HQ := Hn
  clear Hn
  have Hn := Aside0.mk (Kd.C_below HR.out hb)
  clear HR
  have HR := Hn
  clear Hn
  have Hn := Aside0.mk (Kd.C_below HS.out hb)
  clear HS
  have HS := Hn
  clear Hn
  have Hn := Aside0.mk (Kd.C_below HU.out hb)
  clear HU
  have HU := Hn
  clear Hn
  have Hn := Aside0.mk (Kd.C_below HV.out hb)
  clear HV
  have HV := Hn
  clear Hn
  clear H0 HB e0 e1 e2 e3 e4
  have H0 := H0n
  have HB := HBn
  clear H0n HBn
  have e0 := H0.out.cell 0
  have e1 := H0.out.cell 1
  have e2 := H0.out.cell 2
  have e3 := H0.out.cell 3
  have e4 := H0.out.cell 4
  simp only [List.getElem?_toArray, List.getElem?_cons_zero, List.getElem?_cons_succ] at e0 e1 e2 e3 e4
  clear hb
  go_wp2_with (fail)
  refine (HS2.out DR mR DS mS _ HR.out HMR.out HS.out HMS.out).mono ?_
  rintro e w1 ⟨rfl, hb⟩
  have H0n := Aside0.mk (H0.out.below hb)
  have HBn := Aside0.mk (below_step HB.out hb)
  have Hn := Aside0.mk (Kd.C_below HP.out hb)
  clear HP
  have HP := Hn
  clear Hn
  have Hn := Aside0.mk (Kd.C_below HQ.out hb)
  clear HQ
  have HQ := Hn
  clear Hn
  have Hn := Aside0.mk (Kd.C_below HR.out hb)
  clear HR
  have HR := Hn
  clear Hn
  have Hn := Aside0.mk (Kd.C_below HS.out hb)
  clear HS
  have HS := Hn
  clear Hn
  have Hn := Aside0.mk (Kd.C_below HU.out hb)
  clear HU
  have HU := Hn
  clear Hn
  have Hn := Aside0.mk (Kd.C_below HV.out hb)
  clear HV
  have HV := Hn
  clear Hn
  clear H0 HB e0 e1 e2 e3 e4
  have H0 := H0n
  have HB := HBn
  clear H0n HBn
  have e0 := H0.out.cell 0
  have e1 := H0.out.cell 1
  have e2 := H0.out.cell 2
  have e3 := H0.out.cell 3
  have e4 := H0.out.cell 4
  simp only [List.getElem?_toArray, List.getElem?_cons_zero, List.getElem?_cons_succ] at e0 e1 e2 e3 e4
  clear hb
  go_wp2_with (fail)
  refine (num22_c _ _).mono ?_
  rintro e w1 ⟨rfl, hb⟩
  have H0n := Aside0.mk (H0.out.below hb)
  have HBn := Aside0.mk (below_step HB.out hb)
  have Hn := Aside0.mk (Kd.C_below HP.out hb)
  clear HP
  have HP := Hn
  clear Hn
  have Hn := Aside0.mk (Kd.C_below HQ.out hb)
  clear HQ
  have HQ := Hn
  clear Hn
  have Hn := Aside0.mk (Kd.C_below HR.out hb)
  clear HR
  have HR := Hn
  clear Hn
  have Hn := Aside0.mk (Kd.C_below HS.out hb)
  clear HS
  have HS := Hn
  clear Hn
  have Hn := Aside0.mk (Kd.C_below HU.out hb)
  clear HU
  have HU := Hn
  clear Hn
  have Hn := Aside0.mk (Kd.C_below HV.out hb)
  clear HV
  have HV := Hn
  clear Hn
  clear H0 HB e0 e1 e2 e3 e4
  have H0 := H0n
  have HB := HBn
  clear H0n HBn
  have e0 := H0.out.cell 0
  have e1 := H0.out.cell 1
  have e2 := H0.out.cell 2
  have e3 := H0.out.cell 3
  have e4 := H0.out.cell 4
  simp only [List.getElem?_toArray, List.getElem?_cons_zero, List.getElem?_cons_succ] at e0 e1 e2 e3 e4
  clear hb
  go_wp2_with (fail)
  refine (HS3.out DU mU DV mV _ HU.out HMU.out HV.out HMV.out).mono ?_
  rintro e w1 ⟨rfl, hb⟩
  have H0n := Aside0.mk (H0.out.below hb)
  have HBn := Aside0.mk (below_step HB.out hb)
  have Hn := Aside0.mk (Kd.C_below HP.out hb)
  clear HP
  have HP := Hn
  clear Hn
  have Hn := Aside0.mk (Kd.C_below HQ.out hb)
  clear HQ
  have HQ := Hn
  clear Hn
  have Hn := Aside0.mk (Kd.C_below HR.out hb)
  clear HR
  have HR := Hn
  clear Hn
  have Hn := Aside0.mk (Kd.C_below HS.out hb)
  clear HS
  have HS := Hn
  clear Hn
  have Hn := Aside0.mk (Kd.C_below HU.out hb)
  clear HU
  have HU := Hn
  clear Hn
  have Hn := Aside0.mk (Kd.C_below HV.out hb)
  clear HV
  have HV := Hn
  clear Hn
  clear H0 HB e0 e1 e2 e3 e4
  have H0 := H0n
  have HB := HBn
  clear H0n HBn
  have e0 := H0.out.cell 0
  have e1 := H0.out.cell 1
  have e2 := H0.out.cell 2
  have e3 := H0.out.cell 3
  have e4 := H0.out.cell 4
  simp only [List.getElem?_toArray, List.getElem?_cons_zero, List.getElem?_cons_succ] at e0 e1 e2 e3 e4
  clear hb
  go_wp2_with (fail)
  refine (num22_c _ _).mono ?_
  rintro e w1 ⟨rfl, hb⟩
  have H0n := Aside0.mk (H0.out.below hb)
  have HBn := Aside0.mk (below_step HB.out hb)
  have Hn := Aside0.mk (Kd.C_below HP.out hb)
  clear HP
  have HP := Hn
  clear Hn
  have Hn := Aside0.mk (Kd.C_below HQ.out hb)
  clear HQ
  have HQ := Hn
  clear Hn
  have Hn := Aside0.mk (Kd.C_below HR.out hb)
  clear HR
  have HR := Hn
  clear Hn
  have Hn := Aside0.mk (Kd.C_below HS.out hb)
  clear HS
  have HS := Hn
  clear Hn
  have Hn := Aside0.mk (Kd.C_below HU.out hb)
  clear HU
  have HU := Hn
  clear Hn
  have Hn := Aside0.mk (Kd.C_below HV.out hb)
  clear HV
  have HV := Hn
  clear Hn
  clear H0 HB e0 e1 e2 e3 e4
  have H0 := H0n
  have HB := HBn
  clear H0n HBn
  have e0 := H0.out.cell 0
  have e1 := H0.out.cell 1
  have e2 := H0.out.cell 2
  have e3 := H0.out.cell 3
  have e4 := H0.out.cell 4
  simp only [List.getElem?_toArray, List.getElem?_cons_zero, List.getElem?_cons_succ] at e0 e1 e2 e3 e4
  clear hb
  go_wp2_with (fail)
  refine (live22_c _).mono ?_
  rintro e w1 ⟨rfl, hb⟩
  have H0n := Aside0.mk (H0.out.below hb)
  have HBn := Aside0.mk (below_step HB.out hb)
  have Hn := Aside0.mk (Kd.C_below HP.out hb)
  clear HP
  have HP := Hn
  clear Hn
  have Hn := Aside0.mk (Kd.C_below HQ.out hb)
  clear HQ
  have HQ := Hn
  clear Hn
  have Hn := Aside0.mk (Kd.C_below HR.out hb)
  clear HR
  have HR := Hn
  clear Hn
  have Hn := Aside0.mk (Kd.C_below HS.out hb)
  clear HS
  have HS := Hn
  clear Hn
  have Hn := Aside0.mk (Kd.C_below HU.out hb)
  clear HU
  have HU := Hn
  clear Hn
  have Hn := Aside0.mk (Kd.C_below HV.out hb)
  clear HV
  have HV := Hn
  clear Hn
  clear H0 HB e0 e1 e2 e3 e4
  have H0 := H0n
  have HB := HBn
  clear H0n HBn
  have e0 := H0.out.cell 0
  have e1 := H0.out.cell 1
  have e2 := H0.out.cell 2
  have e3 := H0.out.cell 3
  have e4 := H0.out.cell 4
  simp only [List.getElem?_toArray, List.getElem?_cons_zero, List.getElem?_cons_succ] at e0 e1 e2 e3 e4
  clear hb
  go_wp2_with (fail)
  go_ret
  exact ⟨rfl, HB.out⟩
end Go.Proofs.Ytgdpabedlghiaaa.Scope
/- The law HoldTurns. -/
namespace Go.Proofs.Ytgdpabedlghiaaa.Scope
set_option linter.unusedVariables false
open Go.RowKit Go.Proofs.YtgdpabedlghiaaaW.PrintWords Go.Proofs.Ytgdpabedlghiaaa.PZ
theorem turnsWalk (w : World) (A : Option Addr) (c : Nat) (l : List S52) (hr : Kd.C k52 w A l.length l) (hc : l.length ≤ c) (_ : True) (id : ByteArray) (_ : id.size ≤ maxLen) (y : S40) (cy : Array Value) (hL : k40.K w y cy.toList) (_ : True) :
    Calls Try.prog 8 #[.slice A l.length c, .string id, .agg cy] w fun e w' => e = .returned (.bool true) ∧ Below w.heap.size w w' := by
  obtain ⟨B, d, f0, hd, hs⟩ := k40_open hL
  have e1 : cy = #[.int .i64 y.f0, .string y.f1, .int .i64 y.f2, .int .i64 y.f3, .slice B y.f4.length d] := Array.toList_inj.1 f0
  subst e1
  exact turns_walk w l A c hr hc id y B d hs hd
end Go.Proofs.Ytgdpabedlghiaaa.Scope
