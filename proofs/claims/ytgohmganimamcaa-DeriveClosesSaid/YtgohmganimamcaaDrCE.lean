/- Own and printed texts, laid together. -/
import Derived.Test.YtgohmganimamcaaDrCD
import Derived.Test.YtgohmganimamcaaDrCC
import Derived.Deep.RegionHeld
import Derived.RegionTactic
import Derived.Deep.RegionLaw
import Derived.Deep.DeepMust
import Derived.Deep.DeepCutAuto
/- term.walk with Parts' visitor walked, and term.Parts: a term and all that is in it. -/
namespace Go.Proofs.Ytgohmganimamcaa.Term
set_option linter.unusedVariables false
set_option linter.unusedSimpArgs false
open Go.RowKit Go.Proofs.Ytgohmganimamcaa.Base Go.Proofs.Ytgohmganimamcaa.TlvPlain Go.Proofs.Ytgohmganimamcaa.Lo Go.Proofs.Ytgohmganimamcaa.RdPlain Go.Proofs.Ytgohmganimamcaa.Aid Go.Proofs.Ytgohmganimamcaa.PZ Go.Proofs.YtgohmganimamcaaW.PrintWords Go.Proofs.YtgohmganimamcaaW.PrintLast Go.Proofs.YtgohmganimamcaaW.PrintMore
mutual
/-- A term, and all that is in it. -/
def partsT : ST → List ST
  | ⟨a, n, d, ks⟩ => ⟨a, n, d, ks⟩ :: partsTs ks
def partsTs : List ST → List ST
  | [] => []
  | k :: ks => partsT k ++ partsTs ks
end
theorem partsTs_eq : ∀ l : List ST, partsTs l = (l.map partsT).flatten
  | [] => by rw [partsTs]; rfl
  | k :: ks => by rw [partsTs, partsTs_eq ks]; rfl
theorem partsT_eq (x : ST) : partsT x = x :: (x.f3.map partsT).flatten := by
  cases x
  rw [partsT, partsTs_eq]
theorem lflat_snoc (f : ST → List ST) (l : List ST) (i : Nat) (h : i < l.length) : ((l.take (i + 1)).map f).flatten = ((l.take i).map f).flatten ++ f l[i] := by
  rw [List.take_succ_eq_append_getElem h, List.map_append, List.flatten_append]
  simp
theorem lflat_le (f : ST → List ST) (l : List ST) (i : Nat) (h : i < l.length) : ((l.take i).map f).flatten.length + (f l[i]).length ≤ (l.map f).flatten.length := by
  have e : (l.map f).flatten = ((l.take (i + 1)).map f).flatten ++ ((l.drop (i + 1)).map f).flatten := by
    rw [← List.flatten_append, ← List.map_append, List.take_append_drop]
  rw [e, lflat_snoc f l i h, List.length_append, List.length_append]
  omega
def WalkL (x : ST) : Prop := ∀ (P : Nat → Prop) (v0 : World) (g5 : Nat) A2 c2 A3 c3 (W : World) (xs : List ST), InvL P v0 g5 W xs → RowsF v0 (fun k => P k ∧ k < v0.heap.size) x A2 c2 A3 c3 → xs.length + (partsT x).length ≤ 1000000 →
  Calls Try.prog 41 #[.agg #[.int .i64 x.f0, .int .u64 x.f1, .slice A2 x.f2.length c2, .slice A3 x.f3.length c3], .func (.func 64) #[] #[.pointer (some ⟨g5, 0, none⟩)]] W fun e w' => e = .returned (.tuple #[]) ∧ InvL P v0 g5 w' (xs ++ partsT x)
/-- Element i of a row of terms that is read: its cells and what they lead to. -/
theorem at_F {w : World} {P : Nat → Prop} {A : Option Addr} {xs : List ST} (h : Kd.F k26 w P A xs.length xs) (i : Nat) (hi : i < xs.length) : ∃ ad A2 c2 A3 c3, A = some ad ∧ RowsF w P xs[i] A2 c2 A3 c3 ∧ w.cell? (ad.add (i * 4)) = some (.int .i64 xs[i].f0) ∧ w.cell? ⟨(ad.add (i * 4)).block, (ad.add (i * 4)).off + 1, none⟩ = some (.int .u64 xs[i].f1) ∧ w.cell? ⟨(ad.add (i * 4)).block, (ad.add (i * 4)).off + 2, none⟩ = some (.slice A2 xs[i].f2.length c2) ∧ w.cell? ⟨(ad.add (i * 4)).block, (ad.add (i * 4)).off + 3, none⟩ = some (.slice A3 xs[i].f3.length c3) := by
  obtain ⟨ad, c, e, _, hK, hc0, _⟩ := Kd.F_get h z_T (i : Int) (by omega) (by omega)
  have hc : ∀ j u, c[j]? = some u → w.cell? (ad.add (i * 4 + j)) = some u := by intro j u hj; have h := hc0 j u hj; simp only [Int.toNat_natCast] at h; exact h
  rw [Int.toNat_natCast, List.getD_eq_getElem?_getD, List.getElem?_eq_getElem hi, Option.getD_some] at hK
  obtain ⟨A2, c2, A3, c3, rfl, l2, g2, l3, g3⟩ := k26_openF hK
  exact ⟨ad, A2, c2, A3, c3, e, ⟨⟨l2, g2⟩, l3, g3⟩, hc 0 _ rfl, by rw [← add_field _ _ 1 (by omega)]; exact hc 1 _ rfl, by rw [← add_field _ _ 2 (by omega)]; exact hc 2 _ rfl, by rw [← add_field _ _ 3 (by omega)]; exact hc 3 _ rfl⟩
set_option maxHeartbeats 4000000 in
set_option maxRecDepth 100000 in
theorem walk_parts : ∀ (d : Nat) (x : ST), mayT d x = true → WalkL x := by
  intro d
  induction d with
  | zero => intro x h; rw [mayT] at h; cases h
  | succ d ih =>
    intro x hm P v0 g5 A2 c2 A3 c3 W xs hI hx hl
    obtain ⟨m1, m2, m3, m4, hd, m5, hk⟩ := may_parts hm
    clear m1 m2 m3 m4 m5 hd
    have hb0 := below_alloc (Below.refl W.heap.size W) (.cells #[.int .i64 x.f0, .int .u64 x.f1, .slice A2 x.f2.length c2, .slice A3 x.f3.length c3] 26)
    have hpt := partsT_eq x
    have HLT := Aside0.mk (show xs.length + 1 + ((x.f3.map partsT).flatten).length ≤ 1000000 by rw [hpt] at hl; simp only [List.length_cons] at hl; omega)
    have HV := Aside0.mk (pvisit_c P v0 g5 x A2 c2 A3 c3 _ xs (hI.below hb0) hx (by omega) W.heap.size 26 #[.int .i64 x.f0, .int .u64 x.f1, .slice A2 x.f2.length c2, .slice A3 x.f3.length c3] (blk_new _ _) (by obtain ⟨_, _, v, h, _⟩ := hI; have := h.lt; omega) (by
      obtain ⟨_, _, v, h, hN⟩ := hI
      intro u hu
      have h5 := (h.below hb0).cell 0
      simp only [List.getElem?_toArray, List.getElem?_cons_zero] at h5
      rw [h5] at hu
      injection hu with hu
      subst hu
      exact fun e => Nat.lt_irrefl _ (Kd.N_lt hN _ e.symm)))
    have H0 := Aside0.mk (show Blk (W.alloc (.cells #[.int .i64 x.f0, .int .u64 x.f1, .slice A2 x.f2.length c2, .slice A3 x.f3.length c3] 26)) W.heap.size 26 #[.int .i64 x.f0, .int .u64 x.f1, .slice A2 x.f2.length c2, .slice A3 x.f3.length c3] from blk_new _ _)
    have HIH := Aside0.mk (fun k (hkm : k ∈ x.f3) => ih k (hk k hkm))
    have HX := Aside0.mk hx
    have HPT := Aside0.mk hpt
    have HM := Aside0.mk (Kd.F_now hx.2.2).2.1
    have hu26 := Try.underlying26
    have hu24 := Try.underlying24
    have h3 := H0.out.cell 3
    simp only [List.getElem?_toArray, List.getElem?_cons_zero, List.getElem?_cons_succ] at h3
    clear ih hm hI hx hl hk hb0 hpt
    go_enter Try.func41, Try.ntmps41
    go_wp2_with (go_at_call 64; refine HV.out.mono ?_; rintro e w1 ⟨rfl, hi, hkb⟩; have HI := Aside0.mk hi; have s3 := hkb.cell 3; simp only [List.getElem?_toArray, List.getElem?_cons_zero, List.getElem?_cons_succ] at s3; clear hi hkb)
    go_loopg [12] x.f3.length (fun gf s12 wx => ∃ (i : Nat), s12 = .int .i64 (i : Int) ∧ i + gf = x.f3.length ∧ InvL P v0 g5 wx (xs ++ (x :: ((x.f3.take i).map partsT).flatten)))
    case atStart => exact ⟨0, rfl, by omega, by have h := HI.out; simpa using h⟩
    case round =>
      obtain ⟨i, rfl, hi, hinv⟩ := hrel
      have HJ := Aside0.mk hinv
      have HQ := Aside0.mk hi
      clear hinv hi
      by_cases hlt : i < x.f3.length
      · have hl1 : decide ((i : Int) < (x.f3.length : Int)) = true := decide_eq_true (by omega)
        have hw1 : wrap64 ((i : Int) + 1) = ((i + 1 : Nat) : Int) := by rw [Aid.w64 (by omega) (by have := HM.out; omega)]; omega
        obtain ⟨ad, B2, d2, B3, d3, rfl, hrw, hx0, hx1, hx2, hx3⟩ := at_F HX.out.2.2 i hlt
        have hbm := HJ.out.2.1
        replace hx0 := (hbm.cell (World.block_lt_of_cell? _ _ hx0)).trans hx0
        replace hx1 := (hbm.cell (World.block_lt_of_cell? _ _ hx1)).trans hx1
        replace hx2 := (hbm.cell (World.block_lt_of_cell? _ _ hx2)).trans hx2
        replace hx3 := (hbm.cell (World.block_lt_of_cell? _ _ hx3)).trans hx3
        clear hbm
        have HC := Aside0.mk (HIH.out x.f3[i] (List.getElem_mem hlt))
        have HR := Aside0.mk hrw
        have HS := Aside0.mk (lflat_snoc partsT x.f3 i hlt)
        have HLE := Aside0.mk (lflat_le partsT x.f3 i hlt)
        obtain ⟨y, hy⟩ : ∃ y, x.f3[i] = y := ⟨_, rfl⟩
        rw [hy] at hx0 hx1 hx2 hx3 HC HR HS HLE
        clear hy hrw
        have p1 : (0 : Int) ≤ (i : Int) := by omega
        have p2 : (i : Int) < (x.f3.length : Int) := by omega
        have HLL := Aside0.mk (show (xs ++ (x :: ((x.f3.take i).map partsT).flatten)).length + (partsT y).length ≤ 1000000 by
          have h1 := HLT.out
          have h2 := HLE.out
          simp only [List.length_append, List.length_cons]
          omega)
        clear hlt
        go_wp2_with (go_at_call 41; refine (HC.out P v0 g5 B2 d2 B3 d3 _ _ (HJ.out.below (below_alloc (Below.refl _ _) _)) HR.out HLL.out).mono ?_; rintro e w' ⟨rfl, hv⟩; have HVV := Aside0.mk hv; clear hv)
        go_roundg (x.f3.length - (i + 1))
        case measure => have := HQ.out; omega
        case rel => exact ⟨i + 1, by first | rfl | rw [hw1], by omega, by rw [HS.out, ← List.cons_append, ← List.append_assoc]; exact HVV.out⟩
      · have hl1 : decide ((i : Int) < (x.f3.length : Int)) = false := decide_eq_false (by omega)
        have HE := Aside0.mk (show xs ++ (x :: ((x.f3.take i).map partsT).flatten) = xs ++ partsT x by
          rw [HPT.out, List.take_of_length_le (by omega)])
        go_wp2
        go_end0
        have h := HJ.out
        rw [HE.out] at h
        exact ⟨rfl, h⟩
theorem parts_len : ∀ (d : Nat) (x : ST), mayT d x = true → (partsT x).length ≤ 2 ^ d - 1 := by
  intro d
  induction d with
  | zero => intro x h; rw [mayT] at h; cases h
  | succ d ih =>
    intro x h
    obtain ⟨_, h2, _, _, _, _, h7⟩ := may_parts h
    have hk : ((x.f3.map partsT).flatten).length ≤ 2 * (2 ^ d - 1) := by
      have hl : x.f3.length ≤ 2 := by have := kid_len x.f0; omega
      have hb : ∀ k ∈ x.f3, (partsT k).length ≤ 2 ^ d - 1 := fun k hk => ih k (h7 k hk)
      generalize x.f3 = l at hl hb
      match l, hl, hb with
      | [], _, _ => simp
      | [a], _, h => have := h a (by simp); simp; omega
      | [a, c], _, h => have h1 := h a (by simp); have h2 := h c (by simp); simp; omega
    rw [partsT_eq, List.length_cons]
    have e : 2 ^ (d + 1) = 2 * 2 ^ d := by rw [Nat.pow_succ]; omega
    have : 0 < 2 ^ d := Nat.two_pow_pos d
    omega
def partsV (x : ST) : List ST := if mayT 8 x = true then partsT x else []
set_option maxHeartbeats 4000000 in
set_option maxRecDepth 100000 in
theorem parts_c (P : Nat → Prop) (x : ST) (hw : wfT x) (A2 : Option Addr) (c2 : Nat) (A3 : Option Addr) (c3 : Nat) (w : World) (hx : RowsF w (fun k => P k ∧ k < w.heap.size) x A2 c2 A3 c3) :
    Calls Try.prog 39 #[.agg #[.int .i64 x.f0, .int .u64 x.f1, .slice A2 x.f2.length c2, .slice A3 x.f3.length c3]] w fun e w' => ∃ v, e = .returned v ∧ Kd.N k26 26 w' w.heap.size (fun k => P k ∨ w.heap.size ≤ k) v (partsV x) ∧ Below w.heap.size w w' := by
  have hb0 := below_alloc (Below.refl w.heap.size w) (.cells #[.int .i64 x.f0, .int .u64 x.f1, .slice A2 x.f2.length c2, .slice A3 x.f3.length c3] 26)
  have H0 := Aside0.mk (show Blk (w.alloc (.cells #[.int .i64 x.f0, .int .u64 x.f1, .slice A2 x.f2.length c2, .slice A3 x.f3.length c3] 26)) w.heap.size 26 #[.int .i64 x.f0, .int .u64 x.f1, .slice A2 x.f2.length c2, .slice A3 x.f3.length c3] from blk_new _ _)
  have HB := Aside0.mk hb0
  have HX := Aside0.mk hx
  have HC := Aside0.mk (check_c x A2 c2 A3 c3 _ (hx.now.below hb0))
  have hu26 := Try.underlying26
  have hu24 := Try.underlying24
  unfold partsV
  cases hm : mayT 8 x with
  | false =>
    rw [hm, if_neg (by decide)] at HC
    rw [if_neg (by decide)]
    clear hm hx hb0 hw
    go_enter Try.func39, Try.ntmps39
    go_wp2_with (go_at_call 16; refine HC.out.mono ?_; rintro e w1 ⟨rfl, hb⟩; have HB1 := Aside0.mk (below_step HB.out hb); clear hb)
    go_ret
    exact ⟨_, rfl, Kd.N_nil _ _ _ _ _, HB1.out⟩
  | true =>
    rw [hm, if_pos rfl] at HC
    rw [if_pos rfl]
    have hpl := parts_len 8 x hm
    have HW := Aside0.mk (walk_parts 8 x hm)
    obtain ⟨L, hL⟩ : ∃ L, partsT x = L := ⟨_, rfl⟩
    have HW2 := Aside0.mk (fun (g5 : Nat) (W : World) (h : InvL P w g5 W []) => HW.out P w g5 A2 c2 A3 c3 W [] h HX.out (by simp; omega))
    simp only [List.nil_append] at HW2
    rw [hL] at HW2 ⊢
    clear hm hx hb0 hw hpl hL HW
    go_enter Try.func39, Try.ntmps39
    go_wp2_with (first
      | (go_at_call 16; refine HC.out.mono ?_; rintro e w1 ⟨rfl, hb⟩; have HB1 := Aside0.mk (below_step HB.out hb); have h0 := fun o => ((H0.out.below hb).alloc o).cell 0; have h1 := fun o => ((H0.out.below hb).alloc o).cell 1; have h2 := fun o => ((H0.out.below hb).alloc o).cell 2; have h3 := fun o => ((H0.out.below hb).alloc o).cell 3; simp only [List.getElem?_toArray, List.getElem?_cons_zero, List.getElem?_cons_succ] at h0 h1 h2 h3; clear hb)
      | (go_at_call 41; refine (HW2.out w1.heap.size _ ⟨HB1.out.size, below_alloc HB1.out _, .slice none 0 0, blk_new _ _, Kd.N_nil _ _ _ _ _⟩).mono ?_; rintro e w2 ⟨rfl, hi⟩; obtain ⟨_, hB, v, h5, hO⟩ := hi; obtain ⟨A9, c9, rfl⟩ := Kd.N_slice hO; have HB2 := Aside0.mk hB; have HO2 := Aside0.mk hO; have p5 := h5.cell 0; simp only [List.getElem?_toArray, List.getElem?_cons_zero, List.getElem?_cons_succ] at p5; clear hB h5 hO h0 h1 h2 h3))
    go_ret
    exact ⟨_, rfl, Kd.N_mono HO2.out (fun k hk => hk.1), HB2.out⟩
end Go.Proofs.Ytgohmganimamcaa.Term
-- printed for this claim by a program (pall.sh)
-- mended by fixpz.py
namespace Go.Proofs.Ytgohmganimamcaa.PZ
open Go.RowKit Go.Proofs.YtgohmganimamcaaW.PrintWords Go.Proofs.YtgohmganimamcaaW.PrintLast Go.Proofs.YtgohmganimamcaaW.PrintMore
attribute [local go_sem] max2_int min2_int max_two min_two max_three min_three max_four min_four   -- for this text's walks alone
set_option linter.unusedVariables false
set_option linter.unusedSimpArgs false

/-! ### hanaperref05_Parts: function 32 -/
mutual
def hanaperref05_Parts.l0 : Nat → List (S26) → Int → Int → Int → List Int → List (S26) → Option ((List (S26)))
 | 0, _, _, _, _, _, _ => none
 | k + 1, x3, x4, x102000, x102001, x102002, x102003 => if x4 < (x102003.length : Int) then (if 0 ≤ x4 then ((hanaperref05_Parts.f k ((rd_T26 x102003 x4).f0) ((rd_T26 x102003 x4).f1) ((rd_T26 x102003 x4).f2) ((rd_T26 x102003 x4).f3)).bind fun t106 => (if x3.length + t106.length < 2199023255552 then (hanaperref05_Parts.l0 k (x3 ++ t106) (wrap64 (x4 + 1)) x102000 x102001 x102002 x102003) else (none))) else (none)) else (some x3)
def hanaperref05_Parts.f : Nat → Int → Int → List Int → List (S26) → Option ((List (S26)))
 | 0, _, _, _, _ => none
 | k + 1, a0_0, a0_1, l0_2, l0_3 => hanaperref05_Parts.l0 k (([(⟨a0_0, a0_1, l0_2, l0_3⟩ : S26)] : List (S26))) 0 a0_0 a0_1 l0_2 l0_3
end
set_option maxHeartbeats 8000000 in
set_option maxRecDepth 100000 in
theorem hanaperref05_Parts.calls (k : Nat) : ∀ (a0_0 : Int) (a0_1 : Int) (P0_2_ : Nat → Prop) (A0_2 : Option Addr) (c0_2 : Nat) (l0_2 : List Int) (P0_3_ : Nat → Prop) (A0_3 : Option Addr) (c0_3 : Nat) (l0_3 : List (S26)) (r : List (S26)) (w : World) (hs0_2 : Kd.V (Kd.int .u8) 5 w w.heap.size (fun k_ => P0_2_ k_) (.slice A0_2 l0_2.length c0_2) l0_2) (hs0_3 : Kd.V k26 26 w w.heap.size (fun k_ => P0_3_ k_) (.slice A0_3 l0_3.length c0_3) l0_3) (h : hanaperref05_Parts.f k a0_0 a0_1 l0_2 l0_3 = some r),
  Calls Try.prog 32 #[.agg #[.int .i64 a0_0, .int .u64 a0_1, .slice A0_2 l0_2.length c0_2, .slice A0_3 l0_3.length c0_3]] w fun e w' => ∃ v0_ : Value, e = .returned (v0_) ∧ Kd.N k26 26 w' w.heap.size (fun k_ => ((P0_2_ k_ ∨ P0_3_ k_) ∨ w.heap.size ≤ k_)) v0_ r ∧ Below w.heap.size w w' := by
 induction k using Nat.strongRecOn with
 | _ k ih =>
 intro a0_0 a0_1 P0_2_ A0_2 c0_2 l0_2 P0_3_ A0_3 c0_3 l0_3 r w hs0_2 hs0_3 h
 cases k with
 | zero => exact absurd h (by simp [hanaperref05_Parts.f])
 | succ k =>
 simp only [hanaperref05_Parts.f] at h
 have hu26 := Try.underlying26
 have HO0_2 := Aside0.mk (show Kd.V (Kd.int .u8) 5 w w.heap.size (fun k_ => ((P0_2_ k_ ∨ P0_3_ k_) ∨ w.heap.size ≤ k_)) (.slice A0_2 l0_2.length c0_2) l0_2 from Kd.V_mono hs0_2 (fun k_ hk => .inl (.inl hk)))
 have HO0_3 := Aside0.mk (show Kd.V k26 26 w w.heap.size (fun k_ => ((P0_2_ k_ ∨ P0_3_ k_) ∨ w.heap.size ≤ k_)) (.slice A0_3 l0_3.length c0_3) l0_3 from Kd.V_mono hs0_3 (fun k_ hk => .inl (.inr hk)))
 have HB := Aside0.mk (Below.refl w.heap.size w)
 have H : (hanaperref05_Parts.l0 k (([(⟨a0_0, a0_1, l0_2, l0_3⟩ : S26)] : List (S26))) 0 a0_0 a0_1 l0_2 l0_3) = some r := h
 clear h
 obtain ⟨y102, hy102⟩ : ∃ y_ : List (S26), y_ = (([(⟨a0_0, a0_1, l0_2, l0_3⟩ : S26)] : List (S26))) := ⟨_, rfl⟩
 replace H : (hanaperref05_Parts.l0 k y102 0 a0_0 a0_1 l0_2 l0_3) = some r := by first | (rw [hy102]; with_reducible exact H) | (have H2_ := (Option.bind_some _ _).symm.trans H; rw [hy102]; with_reducible exact H2_) | (have H2_ := (Option.bind_some _ _).symm.trans H; with_reducible exact H2_) | with_reducible exact H | (rw [hy102]; exact H) | exact H
 have Ny102 := Aside0.mk hy102
 clear hy102
 have H' := Aside0.mk H
 clear H
 go_enter Try.func32, Try.ntmps32
 go_wp2_with (first | ((with_reducible refine gate_dst (N := 1) rfl ?_); refine box_event ?hg (N := 1) ?hd (cs := #[.int .i64 a0_0, .int .u64 a0_1, .slice A0_2 l0_2.length c0_2, .slice A0_3 l0_3.length c0_3]) (t := 26) ?hr ?_; (case hd => rfl); (case hg => rfl); (case hr => first | (go_simp; done) | (go_simp; rfl)); intro gb101 hg w2 hbox hb; have n0_ := Aside0.mk (Kd.V_below (Kd.V_elderB (by (with_reducible repeat (first | apply Kd.V_alloc | apply Kd.V_drewN | apply Kd.V_drew)); exact HO0_2.out) gb101 (Nat.le_of_eq hg.symm)) hb); have n1_ := Aside0.mk (Kd.V_below (Kd.V_elderB (by (with_reducible repeat (first | apply Kd.V_alloc | apply Kd.V_drewN | apply Kd.V_drew)); exact HO0_3.out) gb101 (Nat.le_of_eq hg.symm)) hb); have n2_ := Aside0.mk (below_step (by repeat (first | (with_reducible first | exact HB.out | apply below_alloc | apply pw_below_drewN | apply below_drew1) | exact HB.out)) hb); have n3_ := Aside0.mk (hbox); have n4_ := Aside0.mk ((by rw [hg]; exact (below_size (by repeat (first | (with_reducible first | exact HB.out | apply below_alloc | apply pw_below_drewN | apply below_drew1) | exact HB.out))) : w.heap.size ≤ gb101)); have n5_ := Aside0.mk ((by rw [hg]; exact (below_size (by repeat (first | (with_reducible first | exact HB.out | apply below_alloc | apply pw_below_drewN | apply below_drew1) | exact HB.out))) : w.heap.size ≤ gb101)); clear HO0_2; clear HO0_3; clear HB; have HO0_2 := n0_; have HO0_3 := n1_; have HB := n2_; have BK101 := n3_; have GW101 := n4_; have GE101 := n5_; clear n0_ n1_ n2_ n3_ n4_ n5_; clear hb hbox hg; have hcz3_0 : w2.cell? ⟨gb101, 0, none⟩ = some (.int .i64 a0_0) := (blk_cell BK101.out 0).trans rfl; have hcz3_1 : w2.cell? ⟨gb101, 1, none⟩ = some (.int .u64 a0_1) := (blk_cell BK101.out 1).trans rfl; have hcz3_2 : w2.cell? ⟨gb101, 2, none⟩ = some (.slice A0_2 l0_2.length c0_2) := (blk_cell BK101.out 2).trans rfl; have hcz3_3 : w2.cell? ⟨gb101, 3, none⟩ = some (.slice A0_3 l0_3.length c0_3) := (blk_cell BK101.out 3).trans rfl; have hfz3_0 := blk_frozen BK101.out 0; have hfz3_1 := blk_frozen BK101.out 1; have hfz3_2 := blk_frozen BK101.out 2; have hfz3_3 := blk_frozen BK101.out 3) | ((with_reducible refine gate_dst (N := 6) rfl ?_); refine Kd.N_lit k26 _ 26 ?hg (N' := 6) ?hd (xs := ([(⟨a0_0, a0_1, l0_2, l0_3⟩ : S26)] : List (S26))) (inner := [.int .i64 a0_0, .int .u64 a0_1, .slice A0_2 l0_2.length c0_2, .slice A0_3 l0_3.length c0_3]) (ok := (fun k_ => ((P0_2_ k_ ∨ P0_3_ k_) ∨ w.heap.size ≤ k_) ∧ k_ ≠ gb101)) (okp := (fun k_ => ((P0_2_ k_ ∨ P0_3_ k_) ∨ w.heap.size ≤ k_) ∧ k_ ≠ gb101)) ?hr ?hp (fun _ hk => hk) ((show ∀ k_, w2.heap.size ≤ k_ → (fun k_ => ((P0_2_ k_ ∨ P0_3_ k_) ∨ w.heap.size ≤ k_) ∧ k_ ≠ gb101) k_ from fun k_ hk => ⟨(.inr (Nat.le_trans (below_size (by repeat (first | (with_reducible first | exact HB.out | apply below_alloc | apply pw_below_drewN | apply below_drew1 | refine below_set ?_ GE101.out) | exact HB.out))) hk)), Kd.freshB (g := gb101) (o := .cells #[.int .i64 a0_0, .int .u64 a0_1, .slice A0_2 l0_2.length c0_2, .slice A0_3 l0_3.length c0_3] 26 (0, 0)) (by (with_reducible repeat (first | refine blk_drewN ?_ _ | refine blk_drew ?_ | refine blk_alloc ?_ _)); exact BK101.out) k_ hk⟩) _ (Nat.le_refl _)) (Below.refl _ _) (Nat.le_refl _) (by simp) ?_; (case hd => rfl); (case hg => rfl); (case hr => first | (go_simp; done) | (go_simp; rfl)); (case hp => exact (Reps.c4 (show Kd.FK k26 _ _ (⟨a0_0, a0_1, l0_2, l0_3⟩ : S26) [.int .i64 a0_0, .int .u64 a0_1, .slice A0_2 l0_2.length c0_2, .slice A0_3 l0_3.length c0_3] from (k26_mkF _ _ (⟨a0_0, a0_1, l0_2, l0_3⟩ : S26) (Kd.V_reads' (Kd.V_mono (ok' := (fun k_ => ((P0_2_ k_ ∨ P0_3_ k_) ∨ w.heap.size ≤ k_) ∧ k_ ≠ gb101)) (HO0_2.out) (fun k_ hk => ⟨hk.1, hk.2⟩))).2.1 (Kd.V_F (Kd.V_mono (ok' := (fun k_ => ((P0_2_ k_ ∨ P0_3_ k_) ∨ w.heap.size ≤ k_) ∧ k_ ≠ gb101)) (HO0_2.out) (fun k_ hk => ⟨hk.1, hk.2⟩))) (Kd.V_reads' (Kd.V_mono (ok' := (fun k_ => ((P0_2_ k_ ∨ P0_3_ k_) ∨ w.heap.size ≤ k_) ∧ k_ ≠ gb101)) (HO0_3.out) (fun k_ hk => ⟨hk.1, hk.2⟩))).2.1 (Kd.V_F (Kd.V_mono (ok' := (fun k_ => ((P0_2_ k_ ∨ P0_3_ k_) ∨ w.heap.size ≤ k_) ∧ k_ ≠ gb101)) (HO0_3.out) (fun k_ hk => ⟨hk.1, hk.2⟩))))) (Reps.none _ _))); intro v103 w4 ho5 hb hg_ hnew_; clear hg_ hnew_; (first | rw [← Ny102.out] at ho5 | (simp only [Int.reduceToNat] at ho5; rw [← Ny102.out] at ho5)); have n0_ := Aside0.mk (Kd.V_elder' (by (with_reducible repeat (first | apply Kd.V_alloc | apply Kd.V_drewN | apply Kd.V_drew)); exact HO0_2.out) (Kd.N_base ho5) hb); have n1_ := Aside0.mk (Kd.V_elder' (by (with_reducible repeat (first | apply Kd.V_alloc | apply Kd.V_drewN | apply Kd.V_drew)); exact HO0_3.out) (Kd.N_base ho5) hb); have n2_ := Aside0.mk (Kd.N_lower ho5 (below_size (by repeat (first | (with_reducible first | exact HB.out | apply below_alloc | apply pw_below_drewN | apply below_drew1 | refine below_set ?_ GE101.out) | exact HB.out)))); have n3_ := Aside0.mk (blk_below (g := gb101) (o := .cells #[.int .i64 a0_0, .int .u64 a0_1, .slice A0_2 l0_2.length c0_2, .slice A0_3 l0_3.length c0_3] 26 (0, 0)) (by (with_reducible repeat (first | refine blk_drewN ?_ _ | refine blk_drew ?_ | refine blk_alloc ?_ _)); exact BK101.out) hb); have n4_ := Aside0.mk (below_step (by repeat (first | (with_reducible first | exact HB.out | apply below_alloc | apply pw_below_drewN | apply below_drew1 | refine below_set ?_ GE101.out) | exact HB.out)) hb); clear HO0_2; clear HO0_3; clear BK101; clear HB; have HO0_2 := n0_; have HO0_3 := n1_; have HO104 := n2_; have BK101 := n3_; have HB := n4_; clear n0_ n1_ n2_ n3_ n4_; clear hb ho5))
 go_loopg [3, 4] k (fun kq v3 v4 w' => ∃ (x3_1 : List (S26)) (x4_1 : Int), v4 = .int .i64 x4_1 ∧ Aside0 (hanaperref05_Parts.l0 kq x3_1 x4_1 a0_0 a0_1 l0_2 l0_3 = some r) ∧ Aside0 (kq ≤ k) ∧ Aside0 (Kd.N k26 26 w' w.heap.size (fun k_ => ((P0_2_ k_ ∨ P0_3_ k_) ∨ w.heap.size ≤ k_) ∧ k_ ≠ gb101) v3 x3_1) ∧ Aside0 (Kd.V (Kd.int .u8) 5 w' w.heap.size (fun k_ => ((P0_2_ k_ ∨ P0_3_ k_) ∨ w.heap.size ≤ k_) ∧ some k_ ≠ (v3 : Value).ownBlock ∧ k_ ≠ gb101) (.slice A0_2 l0_2.length c0_2) l0_2) ∧ Aside0 (Kd.V k26 26 w' w.heap.size (fun k_ => ((P0_2_ k_ ∨ P0_3_ k_) ∨ w.heap.size ≤ k_) ∧ some k_ ≠ (v3 : Value).ownBlock ∧ k_ ≠ gb101) (.slice A0_3 l0_3.length c0_3) l0_3) ∧ Aside0 (w'.heap[gb101]? = some (.cells #[.int .i64 a0_0, .int .u64 a0_1, (.slice A0_2 l0_2.length c0_2), (.slice A0_3 l0_3.length c0_3)] 26 (0, 0))) ∧ Aside0 (Below w.heap.size w w'))
 case atStart => exact ⟨(y102), (0), (by first | rfl | (simp; done) | (simp [*]; done)), H', ⟨Nat.le_refl _⟩, ⟨by (with_reducible repeat (first | apply Kd.N_alloc | apply Kd.N_drewN | apply Kd.N_drew)); exact HO104.out⟩, ⟨by (with_reducible repeat (first | apply Kd.V_alloc | apply Kd.V_drewN | apply Kd.V_drew)); exact Kd.V_mono HO0_2.out (fun _ hk => ⟨hk.1.1, ⟨hk.2, hk.1.2⟩⟩)⟩, ⟨by (with_reducible repeat (first | apply Kd.V_alloc | apply Kd.V_drewN | apply Kd.V_drew)); exact Kd.V_mono HO0_3.out (fun _ hk => ⟨hk.1.1, ⟨hk.2, hk.1.2⟩⟩)⟩, ⟨by (with_reducible repeat (first | refine blk_drewN ?_ _ | refine blk_drew ?_ | refine blk_alloc ?_ _)); exact BK101.out⟩, ⟨by repeat (first | (with_reducible first | exact HB.out | apply below_alloc | apply pw_below_drewN | apply below_drew1 | refine below_set ?_ GE101.out) | exact HB.out)⟩⟩
 case round =>
  clear H'
  (try clear p2);(try clear c3);(try clear c4);(try clear hcz3_0);(try clear hcz3_1);(try clear hcz3_2);(try clear hcz3_3);(try clear hfz3_0);(try clear hfz3_1);(try clear hfz3_2);(try clear hfz3_3)
  obtain ⟨x3_1, x4_1, rfl, HA, HK1, HO_3, HO_102002, HO_102003, BK101, HB⟩ := hrel
  cases gk with
  | zero => exact absurd HA.out (by simp [hanaperref05_Parts.l0])
  | succ k1 =>
   have H := HA.out
   clear HA
   simp only [hanaperref05_Parts.l0] at H
   by_cases c6 : x4_1 < (l0_3.length : Int)
   ·rw [if_pos c6] at H
    have c6b0 : decide (x4_1 < (l0_3.length : Int)) = true := decide_eq_true c6
    clear c6
    by_cases c7 : 0 ≤ x4_1
    ·rw [if_pos c7] at H
     have c7b0 : decide (0 ≤ x4_1) = true := decide_eq_true c7
     clear c7
     replace H := Option.bind_eq_some_iff.mp H
     obtain ⟨t106, A80, H⟩ := H
     replace H : (if x3_1.length + t106.length < 2199023255552 then (hanaperref05_Parts.l0 k1 (x3_1 ++ t106) (wrap64 (x4_1 + 1)) a0_0 a0_1 l0_2 l0_3) else (none)) = some r := H
     have A8 := Aside0.mk A80
     clear A80
     by_cases c9 : x3_1.length + t106.length < 2199023255552
     ·rw [if_pos c9] at H
      have LMc9 := Aside0.mk c9
      clear c9
      obtain ⟨y109, hy109⟩ : ∃ y_ : List (S26), y_ = (x3_1 ++ t106) := ⟨_, rfl⟩
      replace H : (hanaperref05_Parts.l0 k1 y109 (wrap64 (x4_1 + 1)) a0_0 a0_1 l0_2 l0_3) = some r := by first | (rw [hy109]; with_reducible exact H) | (have H2_ := (Option.bind_some _ _).symm.trans H; rw [hy109]; with_reducible exact H2_) | (have H2_ := (Option.bind_some _ _).symm.trans H; with_reducible exact H2_) | with_reducible exact H | (rw [hy109]; exact H) | exact H
      have Ny109 := Aside0.mk hy109
      clear hy109
      have H' := Aside0.mk H
      clear H
      have hcz10_0 : wr.cell? ⟨gb101, 0, none⟩ = some (.int .i64 a0_0) := (blk_cell BK101.out 0).trans rfl
      have hcz10_1 : wr.cell? ⟨gb101, 1, none⟩ = some (.int .u64 a0_1) := (blk_cell BK101.out 1).trans rfl
      have hcz10_2 : wr.cell? ⟨gb101, 2, none⟩ = some (.slice A0_2 l0_2.length c0_2) := (blk_cell BK101.out 2).trans rfl
      have hcz10_3 : wr.cell? ⟨gb101, 3, none⟩ = some (.slice A0_3 l0_3.length c0_3) := (blk_cell BK101.out 3).trans rfl
      have hfz10_0 := blk_frozen BK101.out 0
      have hfz10_1 := blk_frozen BK101.out 1
      have hfz10_2 := blk_frozen BK101.out 2
      have hfz10_3 := blk_frozen BK101.out 3
      have p105 : 0 ≤ (x4_1 : Int) := of_decide_eq_true (by first | (with_reducible assumption) | assumption)
      have q105 : x4_1 < (l0_3.length : Int) := of_decide_eq_true (by first | (with_reducible assumption) | assumption)
      obtain ⟨ad105, A105_2, c105_2, A105_3, c105_3, e105, hx105_0, hx105_1, hx105_2, hx105_3, hl105_2, hi105_2, hl105_3, hi105_3⟩ := at_T26 (Kd.V_reads' HO_102003.out).2.2 x4_1 p105 q105
      cases e105
      obtain ⟨ce105, hce105, hMe105, hcc105⟩ := Kd.V_get HO_102003.out z26 x4_1 p105 (by first | exact q105 | exact of_decide_eq_true (by first | (with_reducible assumption) | assumption) | (have e_ := (Kd.V_reads' HO_102003.out).1; omega))
      obtain ⟨ua105_2, uc105_2, ua105_3, uc105_3, rfl, ul105_2, ge105_2, ul105_3, ge105_3⟩ := k26_openF hMe105
      have hv105_2 := hcc105 2 _ rfl
      rw [add_field _ _ 2 (by omega)] at hv105_2
      replace hv105_2 := Option.some.inj (hv105_2.symm.trans hx105_2)
      injection hv105_2 with hva_ hvn_ hvc_
      rw [hva_] at ge105_2
      rw [hvc_] at ul105_2
      have HL105_2 := Aside0.mk (show Kd.V (Kd.int .u8) 5 _ w.heap.size _ _ ((rd_T26 l0_3 x4_1).f2) from Kd.V_mk ul105_2 ge105_2)
      clear hva_ hvn_ hvc_ ge105_2 ul105_2
      have hv105_3 := hcc105 3 _ rfl
      rw [add_field _ _ 3 (by omega)] at hv105_3
      replace hv105_3 := Option.some.inj (hv105_3.symm.trans hx105_3)
      injection hv105_3 with hva_ hvn_ hvc_
      rw [hva_] at ge105_3
      rw [hvc_] at ul105_3
      have HL105_3 := Aside0.mk (show Kd.V k26 26 _ w.heap.size _ _ ((rd_T26 l0_3 x4_1).f3) from Kd.V_mk ul105_3 ge105_3)
      clear hva_ hvn_ hvc_ ge105_3 ul105_3
      clear hcc105 hce105
      have HR105_2 := Aside0.mk hi105_2
      have HC105_2 := Aside0.mk hl105_2
      clear hi105_2 hl105_2
      have HR105_3 := Aside0.mk hi105_3
      have HC105_3 := Aside0.mk hl105_3
      clear hi105_3 hl105_3
      replace p105 := eq_true p105
      replace q105 := eq_true q105
      go_wp2_with (first | ((with_reducible refine gate_callee (f := 32) rfl ?_); refine goesL_ (some 20) rfl rfl Try.func32 (by kernel_rfl) rfl #[.agg #[.int .i64 ((rd_T26 l0_3 x4_1).f0), .int .u64 ((rd_T26 l0_3 x4_1).f1), .slice A105_2 ((rd_T26 l0_3 x4_1).f2).length c105_2, .slice A105_3 ((rd_T26 l0_3 x4_1).f3).length c105_3]] rfl (by (try simp only [List.map_toArray, List.map_cons, List.map_nil]); first | done | rfl | (simp only [List.length_drop, List.length_take]; rfl)) ?_; (with_reducible refine (ih k1 (by have := HK1.out; omega) ((rd_T26 l0_3 x4_1).f0) ((rd_T26 l0_3 x4_1).f1) (fun k_ => (((P0_2_ k_ ∨ P0_3_ k_) ∨ w.heap.size ≤ k_) ∧ (some k_ ≠ (u3 : Value).ownBlock ∧ k_ ≠ gb101))) _ _ ((rd_T26 l0_3 x4_1).f2) (fun k_ => (((P0_2_ k_ ∨ P0_3_ k_) ∨ w.heap.size ≤ k_) ∧ (some k_ ≠ (u3 : Value).ownBlock ∧ k_ ≠ gb101))) _ _ ((rd_T26 l0_3 x4_1).f3) t106 _ ?side1 ?side2 A8.out).mono ?_); (case side1 => exact HL105_2.out); (case side2 => exact HL105_3.out); rintro e w11 ⟨v107, rfl, ho0, hb⟩; refine ⟨_, rfl, ?_⟩; have n0_ := Aside0.mk (Kd.N_elder' (by (with_reducible repeat (first | apply Kd.N_alloc | apply Kd.N_drewN | apply Kd.N_drew)); exact HO_3.out) (Kd.N_base ho0) hb); have n1_ := Aside0.mk (Kd.V_elder' (by (with_reducible repeat (first | apply Kd.V_alloc | apply Kd.V_drewN | apply Kd.V_drew)); exact HO_102002.out) (Kd.N_base ho0) hb); have n2_ := Aside0.mk (Kd.V_elder' (by (with_reducible repeat (first | apply Kd.V_alloc | apply Kd.V_drewN | apply Kd.V_drew)); exact HO_102003.out) (Kd.N_base ho0) hb); have n3_ := Aside0.mk (Kd.V_elder' (by (with_reducible repeat (first | apply Kd.V_alloc | apply Kd.V_drewN | apply Kd.V_drew)); exact HL105_2.out) (Kd.N_base ho0) hb); have n4_ := Aside0.mk (Kd.V_elder' (by (with_reducible repeat (first | apply Kd.V_alloc | apply Kd.V_drewN | apply Kd.V_drew)); exact HL105_3.out) (Kd.N_base ho0) hb); have n5_ := Aside0.mk (Kd.N_lower (Kd.N_mono (ok' := fun k_ => ((P0_2_ k_ ∨ P0_3_ k_) ∨ w.heap.size ≤ k_) ∧ some k_ ≠ (u3 : Value).ownBlock ∧ k_ ≠ gb101) ho0 (fun k_ hk_ => ⟨Or.elim hk_ (fun hs_ => Or.elim hs_ (fun hs_ => hs_.1) (fun hs_ => hs_.1)) (fun hn_ => (.inr (Nat.le_trans (below_size (by repeat (first | (with_reducible first | exact HB.out | apply below_alloc | apply pw_below_drewN | apply below_drew1 | refine below_set ?_ GE101.out) | exact HB.out))) hn_))), Or.elim hk_ (fun hs_ => Or.elim hs_ (fun hs_ => hs_.2.1) (fun hs_ => hs_.2.1)) (fun hn_ => (Kd.fresh' (Kd.N_lt (by (with_reducible repeat (first | apply Kd.N_alloc | apply Kd.N_drewN | apply Kd.N_drew)); exact HO_3.out)) k_ hn_)), Or.elim hk_ (fun hs_ => Or.elim hs_ (fun hs_ => hs_.2.2) (fun hs_ => hs_.2.2)) (fun hn_ => (Kd.freshB (g := gb101) (o := .cells #[.int .i64 a0_0, .int .u64 a0_1, .slice A0_2 l0_2.length c0_2, .slice (some ad105) l0_3.length c0_3] 26 (0, 0)) (by (with_reducible repeat (first | refine blk_drewN ?_ _ | refine blk_drew ?_ | refine blk_alloc ?_ _)); exact BK101.out) k_ hn_))⟩)) (below_size (by repeat (first | (with_reducible first | exact HB.out | apply below_alloc | apply pw_below_drewN | apply below_drew1 | refine below_set ?_ GE101.out) | exact HB.out)))); have n6_ := Aside0.mk (blk_below (g := gb101) (o := .cells #[.int .i64 a0_0, .int .u64 a0_1, .slice A0_2 l0_2.length c0_2, .slice (some ad105) l0_3.length c0_3] 26 (0, 0)) (by (with_reducible repeat (first | refine blk_drewN ?_ _ | refine blk_drew ?_ | refine blk_alloc ?_ _)); exact BK101.out) hb); have n7_ := Aside0.mk (Kd.C_below (by repeat (first | (with_reducible exact HR105_2.out) | (with_reducible refine Kd.C_alloc ?_ _) | (with_reducible refine Kd.C_drewN ?_ _) | (with_reducible refine Kd.C_drew ?_) | exact HR105_2.out)) hb); have n8_ := Aside0.mk (Kd.C_below (by repeat (first | (with_reducible exact HR105_3.out) | (with_reducible refine Kd.C_alloc ?_ _) | (with_reducible refine Kd.C_drewN ?_ _) | (with_reducible refine Kd.C_drew ?_) | exact HR105_3.out)) hb); have n9_ := Aside0.mk (below_step (by repeat (first | (with_reducible first | exact HB.out | apply below_alloc | apply pw_below_drewN | apply below_drew1 | refine below_set ?_ GE101.out) | exact HB.out)) hb); clear HO_3; clear HO_102002; clear HO_102003; clear HL105_2; clear HL105_3; clear BK101; clear HR105_2; clear HR105_3; clear HB; have HO_3 := n0_; have HO_102002 := n1_; have HO_102003 := n2_; have HL105_2 := n3_; have HL105_3 := n4_; have HO108 := n5_; have BK101 := n6_; have HR105_2 := n7_; have HR105_3 := n8_; have HB := n9_; clear n0_ n1_ n2_ n3_ n4_ n5_ n6_ n7_ n8_ n9_; (try clear hb); (try clear hb2); (try clear hk); (try clear hi); (try clear ho0); obtain ⟨Ao13, co13, eo13⟩ := Kd.N_slice HO108.out; subst eo13) | ((with_reducible refine gate_builtin (b := .append) (xs := #[.tmp 14, .tmp 20]) rfl ?_); at_builtin; refine Kd.N_append_rows k26 (w0 := w) w.heap.size rfl (.tmp 14) (.tmp 20) 24 26 (.agg #[(.int .i64 0), (.int .u64 0), (.slice none 0 0), (.slice none 0 0)]) 64 rfl Try.underlying24 info26 rfl (by decide) (by omega) u3 x3_1 t106 _ _ _ (fun k_ => ((P0_2_ k_ ∨ P0_3_ k_) ∨ w.heap.size ≤ k_) ∧ k_ ≠ gb101) (fun k_ => ((fun k_ => ((P0_2_ k_ ∨ P0_3_ k_) ∨ w.heap.size ≤ k_) ∧ k_ ≠ gb101)) k_ ∧ some k_ ≠ (u3 : Value).ownBlock) rfl rfl ?aO ?aR (fun _ hk => hk) ?aF ?aB ?aS ?aL ?_; (case aR => exact (by skip; exact Kd.N_F (Kd.N_mono (ok' := (fun k_ => ((fun k_ => ((P0_2_ k_ ∨ P0_3_ k_) ∨ w.heap.size ≤ k_) ∧ k_ ≠ gb101)) k_ ∧ some k_ ≠ (u3 : Value).ownBlock)) (HO108.out) (fun k_ hk => ⟨⟨hk.1, hk.2.2⟩, hk.2.1⟩)))); (case aB => exact (by repeat (first | (with_reducible first | exact HB.out | apply below_alloc | apply pw_below_drewN | apply below_drew1 | refine below_set ?_ GE101.out) | exact HB.out))); (case aF => exact (fun k_ hk => ⟨(.inr (Nat.le_trans (below_size (by repeat (first | (with_reducible first | exact HB.out | apply below_alloc | apply pw_below_drewN | apply below_drew1 | refine below_set ?_ GE101.out) | exact HB.out))) hk)), Kd.freshB (g := gb101) (o := .cells #[.int .i64 a0_0, .int .u64 a0_1, .slice A0_2 l0_2.length c0_2, .slice (some ad105) l0_3.length c0_3] 26 (0, 0)) (by (with_reducible repeat (first | refine blk_drewN ?_ _ | refine blk_drew ?_ | refine blk_alloc ?_ _)); exact BK101.out) k_ hk⟩)); (case aO => exact (by (with_reducible repeat (first | apply Kd.N_alloc | apply Kd.N_drewN | apply Kd.N_drew)); exact Kd.N_mono HO_3.out (fun _ hk => ⟨hk.1.1, hk.1.2⟩))); (case aS => exact (below_size (by repeat (first | (with_reducible first | exact HB.out | apply below_alloc | apply pw_below_drewN | apply below_drew1 | refine below_set ?_ GE101.out) | exact HB.out)))); (case aL => have := LMc9.out; omega); intro v110 w12 ho hb hg hat; rw [← Ny109.out] at ho; have n0_ := Aside0.mk (Kd.V_afterv (ok := (fun k_ => ((P0_2_ k_ ∨ P0_3_ k_) ∨ w.heap.size ≤ k_) ∧ some k_ ≠ (.slice Ao13 t106.length co13 : Value).ownBlock ∧ k_ ≠ gb101)) (by (with_reducible repeat (first | apply Kd.V_alloc | apply Kd.V_drewN | apply Kd.V_drew)); exact Kd.V_mono HO_102002.out (fun _ hk => ⟨⟨hk.1.1, ⟨hk.2, hk.1.2.2⟩⟩, hk.1.2.1⟩)) hg hat); have n1_ := Aside0.mk (Kd.V_afterv (ok := (fun k_ => ((P0_2_ k_ ∨ P0_3_ k_) ∨ w.heap.size ≤ k_) ∧ some k_ ≠ (.slice Ao13 t106.length co13 : Value).ownBlock ∧ k_ ≠ gb101)) (by (with_reducible repeat (first | apply Kd.V_alloc | apply Kd.V_drewN | apply Kd.V_drew)); exact Kd.V_mono HO_102003.out (fun _ hk => ⟨⟨hk.1.1, ⟨hk.2, hk.1.2.2⟩⟩, hk.1.2.1⟩)) hg hat); have n2_ := Aside0.mk (blk_grown (g := gb101) (o := .cells #[.int .i64 a0_0, .int .u64 a0_1, .slice A0_2 l0_2.length c0_2, .slice (some ad105) l0_3.length c0_3] 26 (0, 0)) (by (with_reducible repeat (first | refine blk_drewN ?_ _ | refine blk_drew ?_ | refine blk_alloc ?_ _)); exact BK101.out) hg (Kd.N_away HO_3.out (fun _ hk => hk.1.2))); have n3_ := Aside0.mk (Kd.V_afterv (ok := (fun k_ => ((P0_2_ k_ ∨ P0_3_ k_) ∨ w.heap.size ≤ k_) ∧ some k_ ≠ (.slice Ao13 t106.length co13 : Value).ownBlock ∧ k_ ≠ gb101)) (by (with_reducible repeat (first | apply Kd.V_alloc | apply Kd.V_drewN | apply Kd.V_drew)); exact Kd.V_mono HL105_2.out (fun _ hk => ⟨⟨hk.1.1, ⟨hk.2, hk.1.2.2⟩⟩, hk.1.2.1⟩)) hg hat); have n4_ := Aside0.mk (Kd.V_afterv (ok := (fun k_ => ((P0_2_ k_ ∨ P0_3_ k_) ∨ w.heap.size ≤ k_) ∧ some k_ ≠ (.slice Ao13 t106.length co13 : Value).ownBlock ∧ k_ ≠ gb101)) (by (with_reducible repeat (first | apply Kd.V_alloc | apply Kd.V_drewN | apply Kd.V_drew)); exact Kd.V_mono HL105_3.out (fun _ hk => ⟨⟨hk.1.1, ⟨hk.2, hk.1.2.2⟩⟩, hk.1.2.1⟩)) hg hat); have n5_ := Aside0.mk (Kd.N_afterv (ok := (fun k_ => ((P0_2_ k_ ∨ P0_3_ k_) ∨ w.heap.size ≤ k_) ∧ k_ ≠ gb101)) (by (with_reducible repeat (first | apply Kd.N_alloc | apply Kd.N_drewN | apply Kd.N_drew)); exact Kd.N_mono HO108.out (fun _ hk => ⟨⟨hk.1, hk.2.2⟩, hk.2.1⟩)) hg hat); have n6_ := Aside0.mk (hb); have n7_ := Aside0.mk (ho); clear HO_102002; clear HO_102003; clear BK101; clear HL105_2; clear HL105_3; clear HO108; clear HB; clear HO_3; have HO_102002 := n0_; have HO_102003 := n1_; have BK101 := n2_; have HL105_2 := n3_; have HL105_3 := n4_; have HO108 := n5_; have HB := n6_; have HO111 := n7_; clear n0_ n1_ n2_ n3_ n4_ n5_ n6_ n7_; clear ho hb hg hat))
      go_roundg k1
      case measure => have := HK1.out; omega
      case rel => exact ⟨(y109), (wrap64 (x4_1 + 1)), (by first | rfl | (simp; done) | (simp [*]; done)), H', ⟨by have := HK1.out; omega⟩, ⟨by (with_reducible repeat (first | apply Kd.N_alloc | apply Kd.N_drewN | apply Kd.N_drew)); exact HO111.out⟩, ⟨by (with_reducible repeat (first | apply Kd.V_alloc | apply Kd.V_drewN | apply Kd.V_drew)); exact Kd.V_mono HO_102002.out (fun _ hk => ⟨hk.1.1, ⟨hk.2, hk.1.2.2⟩⟩)⟩, ⟨by (with_reducible repeat (first | apply Kd.V_alloc | apply Kd.V_drewN | apply Kd.V_drew)); exact Kd.V_mono HO_102003.out (fun _ hk => ⟨hk.1.1, ⟨hk.2, hk.1.2.2⟩⟩)⟩, ⟨by (with_reducible repeat (first | refine blk_drewN ?_ _ | refine blk_drew ?_ | refine blk_alloc ?_ _)); exact BK101.out⟩, ⟨by repeat (first | (with_reducible first | exact HB.out | apply below_alloc | apply pw_below_drewN | apply below_drew1 | refine below_set ?_ GE101.out) | exact HB.out)⟩⟩
     ·rw [if_neg c9] at H
      exact absurd H (by simp)
    ·rw [if_neg c7] at H
     exact absurd H (by simp)
   ·rw [if_neg c6] at H
    have c6b0 : decide (x4_1 < (l0_3.length : Int)) = false := decide_eq_false c6
    clear c6
    obtain rfl := Option.some.inj H
    have hcz14_0 : wr.cell? ⟨gb101, 0, none⟩ = some (.int .i64 a0_0) := (blk_cell BK101.out 0).trans rfl
    have hcz14_1 : wr.cell? ⟨gb101, 1, none⟩ = some (.int .u64 a0_1) := (blk_cell BK101.out 1).trans rfl
    have hcz14_2 : wr.cell? ⟨gb101, 2, none⟩ = some (.slice A0_2 l0_2.length c0_2) := (blk_cell BK101.out 2).trans rfl
    have hcz14_3 : wr.cell? ⟨gb101, 3, none⟩ = some (.slice A0_3 l0_3.length c0_3) := (blk_cell BK101.out 3).trans rfl
    have hfz14_0 := blk_frozen BK101.out 0
    have hfz14_1 := blk_frozen BK101.out 1
    have hfz14_2 := blk_frozen BK101.out 2
    have hfz14_3 := blk_frozen BK101.out 3
    go_wp2
    go_ret
    exact ⟨_, by first | rfl | (simp [errW_none, errW_some] <;> rfl) | (simp [*, errW_none, errW_some] <;> rfl), by (with_reducible repeat (first | apply Kd.N_alloc | apply Kd.N_drewN | apply Kd.N_drew)); exact Kd.N_mono HO_3.out (fun _ hk => hk.1), by repeat (first | (with_reducible first | exact HB.out | apply below_alloc | apply pw_below_drewN | apply below_drew1 | refine below_set ?_ GE101.out) | exact HB.out)⟩

end Go.Proofs.Ytgohmganimamcaa.PZ
-- printed for this claim by a program (pall.sh)
-- mended by fixpz.py
namespace Go.Proofs.Ytgohmganimamcaa.PZ
open Go.RowKit Go.Proofs.YtgohmganimamcaaW.PrintWords Go.Proofs.YtgohmganimamcaaW.PrintLast Go.Proofs.YtgohmganimamcaaW.PrintMore
attribute [local go_sem] max2_int min2_int max_two min_two max_three min_three max_four min_four   -- for this text's walks alone
set_option linter.unusedVariables false
set_option linter.unusedSimpArgs false

/-! ### hanaperref05_Same: function 20 -/
mutual
def hanaperref05_Same.j0 : Nat → Bool → Int → Int → List Int → List (S26) → Int → Int → List Int → List (S26) → Option (Bool)
 | 0, _, _, _, _, _, _, _, _, _ => none
 | k + 1, x34, x102000, x102001, x102002, x102003, x103000, x103001, x103002, x103003 => if x34 = true then (some false) else (hanaperref05_Same.l0 k 0 x102000 x102001 x102002 x102003 x103000 x103001 x103002 x103003)
def hanaperref05_Same.l0 : Nat → Int → Int → Int → List Int → List (S26) → Int → Int → List Int → List (S26) → Option (Bool)
 | 0, _, _, _, _, _, _, _, _, _ => none
 | k + 1, x5, x102000, x102001, x102002, x102003, x103000, x103001, x103002, x103003 => if x5 < (x102003.length : Int) then (if 0 ≤ x5 then (if x5 < (x103003.length : Int) then ((hanaperref05_Same.f k ((rd_T26 x102003 x5).f0) ((rd_T26 x102003 x5).f1) ((rd_T26 x102003 x5).f2) ((rd_T26 x102003 x5).f3) ((rd_T26 x103003 x5).f0) ((rd_T26 x103003 x5).f1) ((rd_T26 x103003 x5).f2) ((rd_T26 x103003 x5).f3)).bind fun t106 => (if t106 = true then (hanaperref05_Same.l0 k (wrap64 (x5 + 1)) x102000 x102001 x102002 x102003 x103000 x103001 x103002 x103003) else (some false))) else (none)) else (none)) else (some true)
def hanaperref05_Same.f : Nat → Int → Int → List Int → List (S26) → Int → Int → List Int → List (S26) → Option (Bool)
 | 0, _, _, _, _, _, _, _, _ => none
 | k + 1, a0_0, a0_1, l0_2, l0_3, a1_0, a1_1, l1_2, l1_3 => if a0_0 = a1_0 then (if a0_1 = a1_1 then ((hanaperref01_Same.f k l0_2 l1_2).bind fun t103 => (if t103 = true then (hanaperref05_Same.j0 k ((l0_3.length : Int) != (l1_3.length : Int)) a0_0 a0_1 l0_2 l0_3 a1_0 a1_1 l1_2 l1_3) else (hanaperref05_Same.j0 k true a0_0 a0_1 l0_2 l0_3 a1_0 a1_1 l1_2 l1_3))) else (hanaperref05_Same.j0 k true a0_0 a0_1 l0_2 l0_3 a1_0 a1_1 l1_2 l1_3)) else (hanaperref05_Same.j0 k true a0_0 a0_1 l0_2 l0_3 a1_0 a1_1 l1_2 l1_3)
end
def hanaperref05_Same.T6 : Bool × List (List Nat × List Nat) := (true, [([], []), ([0], [0]), ([], []), ([1, 2], [1, 2]), ([3], [3]), ([], []), ([5], [5]), ([], []), ([6, 7], [6, 7]), ([8], [8]), ([4, 9], [4, 9]), ([10], [10])])
def hanaperref05_Same.B6 : List Nat := [0, 1, 0, 7, 15, 0, 32, 0, 224, 480, 1023, 2047]
theorem hanaperref05_Same.tab6 : rtab .any (opsOf Try.f20 6) = hanaperref05_Same.T6 := by kernel_rfl
theorem hanaperref05_Same.bits6 : waitsOk hanaperref05_Same.T6.2 hanaperref05_Same.B6 = true := by kernel_rfl
set_option maxHeartbeats 8000000 in
set_option maxRecDepth 100000 in
theorem hanaperref05_Same.calls (k : Nat) : ∀ (a0_0 : Int) (a0_1 : Int) (A0_2 : Option Addr) (c0_2 : Nat) (l0_2 : List Int) (A0_3 : Option Addr) (c0_3 : Nat) (l0_3 : List (S26)) (a1_0 : Int) (a1_1 : Int) (A1_2 : Option Addr) (c1_2 : Nat) (l1_2 : List Int) (A1_3 : Option Addr) (c1_3 : Nat) (l1_3 : List (S26)) (r : Bool) (w : World) (hr0_2 : Kd.C (Kd.int .u8) w A0_2 l0_2.length l0_2) (hc0_2 : l0_2.length ≤ c0_2) (hr0_3 : Kd.C k26 w A0_3 l0_3.length l0_3) (hc0_3 : l0_3.length ≤ c0_3) (hr1_2 : Kd.C (Kd.int .u8) w A1_2 l1_2.length l1_2) (hc1_2 : l1_2.length ≤ c1_2) (hr1_3 : Kd.C k26 w A1_3 l1_3.length l1_3) (hc1_3 : l1_3.length ≤ c1_3) (h : hanaperref05_Same.f k a0_0 a0_1 l0_2 l0_3 a1_0 a1_1 l1_2 l1_3 = some r),
  Calls Try.prog 20 #[.agg #[.int .i64 a0_0, .int .u64 a0_1, .slice A0_2 l0_2.length c0_2, .slice A0_3 l0_3.length c0_3], .agg #[.int .i64 a1_0, .int .u64 a1_1, .slice A1_2 l1_2.length c1_2, .slice A1_3 l1_3.length c1_3]] w fun e w' => e = .returned (.bool r) ∧ Below w.heap.size w w' := by
 induction k using Nat.strongRecOn with
 | _ k ih =>
 intro a0_0 a0_1 A0_2 c0_2 l0_2 A0_3 c0_3 l0_3 a1_0 a1_1 A1_2 c1_2 l1_2 A1_3 c1_3 l1_3 r w hr0_2 hc0_2 hr0_3 hc0_3 hr1_2 hc1_2 hr1_3 hc1_3 h
 cases k with
 | zero => exact absurd h (by simp [hanaperref05_Same.f])
 | succ k =>
 simp only [hanaperref05_Same.f] at h
 have hu26 := Try.underlying26
 have HR0_2 := Aside0.mk hr0_2
 have HC0_2 := Aside0.mk hc0_2
 clear hr0_2 hc0_2
 have HR0_3 := Aside0.mk hr0_3
 have HC0_3 := Aside0.mk hc0_3
 clear hr0_3 hc0_3
 have HR1_2 := Aside0.mk hr1_2
 have HC1_2 := Aside0.mk hc1_2
 clear hr1_2 hc1_2
 have HR1_3 := Aside0.mk hr1_3
 have HC1_3 := Aside0.mk hc1_3
 clear hr1_3 hc1_3
 have HB := Aside0.mk (Below.refl w.heap.size w)
 have H : (if a0_0 = a1_0 then (if a0_1 = a1_1 then ((hanaperref01_Same.f k l0_2 l1_2).bind fun t103 => (if t103 = true then (hanaperref05_Same.j0 k ((l0_3.length : Int) != (l1_3.length : Int)) a0_0 a0_1 l0_2 l0_3 a1_0 a1_1 l1_2 l1_3) else (hanaperref05_Same.j0 k true a0_0 a0_1 l0_2 l0_3 a1_0 a1_1 l1_2 l1_3))) else (hanaperref05_Same.j0 k true a0_0 a0_1 l0_2 l0_3 a1_0 a1_1 l1_2 l1_3)) else (hanaperref05_Same.j0 k true a0_0 a0_1 l0_2 l0_3 a1_0 a1_1 l1_2 l1_3)) = some r := h
 clear h
 have HC3 := Aside0.mk H
 clear H
 go_enter Try.func20, Try.ntmps20
 go_upto_region 1 with (first | ((with_reducible refine gate_dst (N := 2) rfl ?_); (try (refine gate_guard (by rfl) ?_; dsimp only)); refine box_event ?hg (N := 2) ?hd (cs := #[.int .i64 a0_0, .int .u64 a0_1, .slice A0_2 l0_2.length c0_2, .slice A0_3 l0_3.length c0_3]) (t := 26) ?hr ?_; (case hd => rfl); (case hg => rfl); (case hr => first | (go_simp; done) | (go_simp; rfl)); intro gb101 hg w4 hbox hb; have n0_ := Aside0.mk (below_step (by repeat (first | (with_reducible first | exact HB.out | apply below_alloc | apply pw_below_drewN | apply below_drew1) | exact HB.out)) hb); have n1_ := Aside0.mk (hbox); have n2_ := Aside0.mk ((by rw [hg]; exact (below_size (by repeat (first | (with_reducible first | exact HB.out | apply below_alloc | apply pw_below_drewN | apply below_drew1) | exact HB.out))) : w.heap.size ≤ gb101)); have n3_ := Aside0.mk ((by rw [hg]; exact (below_size (by repeat (first | (with_reducible first | exact HB.out | apply below_alloc | apply pw_below_drewN | apply below_drew1) | exact HB.out))) : w.heap.size ≤ gb101)); clear HB; have HB := n0_; have BK101 := n1_; have GW101 := n2_; have GE101 := n3_; clear n0_ n1_ n2_ n3_; clear hb hbox hg) | ((with_reducible refine gate_dst (N := 3) rfl ?_); (try (refine gate_guard (by rfl) ?_; dsimp only)); refine box_event ?hg (N := 3) ?hd (cs := #[.int .i64 a1_0, .int .u64 a1_1, .slice A1_2 l1_2.length c1_2, .slice A1_3 l1_3.length c1_3]) (t := 26) ?hr ?_; (case hd => rfl); (case hg => rfl); (case hr => first | (go_simp; done) | (go_simp; rfl)); intro gb102 hg w5 hbox hb; have n0_ := Aside0.mk (blk_below (g := gb101) (o := .cells #[.int .i64 a0_0, .int .u64 a0_1, .slice A0_2 l0_2.length c0_2, .slice A0_3 l0_3.length c0_3] 26 (0, 0)) (by (with_reducible repeat (first | refine blk_drewN ?_ _ | refine blk_drew ?_ | refine blk_alloc ?_ _)); exact BK101.out) hb); have n1_ := Aside0.mk (below_step (by repeat (first | (with_reducible first | exact HB.out | apply below_alloc | apply pw_below_drewN | apply below_drew1 | refine below_set ?_ GE101.out) | exact HB.out)) hb); have n2_ := Aside0.mk (hbox); have n3_ := Aside0.mk ((by rw [hg]; exact (below_size (by repeat (first | (with_reducible first | exact HB.out | apply below_alloc | apply pw_below_drewN | apply below_drew1 | refine below_set ?_ GE101.out) | exact HB.out))) : w.heap.size ≤ gb102)); have n4_ := Aside0.mk ((by rw [hg]; exact (below_size (by repeat (first | (with_reducible first | exact HB.out | apply below_alloc | apply pw_below_drewN | apply below_drew1 | refine below_set ?_ GE101.out) | exact HB.out))) : w.heap.size ≤ gb102)); have n5_ := Aside0.mk ((by rw [hg]; exact Nat.ne_of_lt (blk_lt (g := gb101) (o := .cells #[.int .i64 a0_0, .int .u64 a0_1, .slice A0_2 l0_2.length c0_2, .slice A0_3 l0_3.length c0_3] 26 (0, 0)) (by (with_reducible repeat (first | refine blk_drewN ?_ _ | refine blk_drew ?_ | refine blk_alloc ?_ _)); exact BK101.out)) : gb101 ≠ gb102)); have n6_ := Aside0.mk ((by rw [hg]; exact Nat.ne_of_gt (blk_lt (g := gb101) (o := .cells #[.int .i64 a0_0, .int .u64 a0_1, .slice A0_2 l0_2.length c0_2, .slice A0_3 l0_3.length c0_3] 26 (0, 0)) (by (with_reducible repeat (first | refine blk_drewN ?_ _ | refine blk_drew ?_ | refine blk_alloc ?_ _)); exact BK101.out)) : gb102 ≠ gb101)); clear BK101; clear HB; have BK101 := n0_; have HB := n1_; have BK102 := n2_; have GW102 := n3_; have GE102 := n4_; have NB101_102 := n5_; have NB102_101 := n6_; clear n0_ n1_ n2_ n3_ n4_ n5_ n6_; clear hb hbox hg))
 (try simp only [Act.put, List.setIfInBounds_toArray, List.set_cons_zero, List.set_cons_succ])
 go_cut [34] (fun v34 wc => ∃ (kq : Nat) (x34_2 : Bool), v34 = .bool x34_2 ∧ Aside0 (hanaperref05_Same.j0 kq x34_2 a0_0 a0_1 l0_2 l0_3 a1_0 a1_1 l1_2 l1_3 = some r) ∧ Aside0 (kq ≤ k) ∧ Aside0 (wc.heap[gb101]? = some (.cells #[.int .i64 a0_0, .int .u64 a0_1, (.slice A0_2 l0_2.length c0_2), (.slice A0_3 l0_3.length c0_3)] 26 (0, 0))) ∧ Aside0 (wc.heap[gb102]? = some (.cells #[.int .i64 a1_0, .int .u64 a1_1, (.slice A1_2 l1_2.length c1_2), (.slice A1_3 l1_3.length c1_3)] 26 (0, 0))) ∧ Aside0 (Below w.heap.size w wc))
 case first =>
  have H := HC3.out
  clear HC3
  by_cases c6 : a0_0 = a1_0
  ·rw [if_pos c6] at H
   have c6b0 : (a0_0 == a1_0) = true := beq_iff_eq.mpr c6
   have c6b1 : (a0_0 != a1_0) = false := bne_eq_false_iff_eq.mpr c6
   clear c6
   (first | rw [c6b0] | (simp only [i64_w, i32_w]; rw [c6b0]) | skip)
   by_cases c7 : a0_1 = a1_1
   ·rw [if_pos c7] at H
    have c7b0 : (a0_1 == a1_1) = true := beq_iff_eq.mpr c7
    have c7b1 : (a0_1 != a1_1) = false := bne_eq_false_iff_eq.mpr c7
    clear c7
    replace H := Option.bind_eq_some_iff.mp H
    obtain ⟨t103, A80, H⟩ := H
    replace H : (if t103 = true then (hanaperref05_Same.j0 k ((l0_3.length : Int) != (l1_3.length : Int)) a0_0 a0_1 l0_2 l0_3 a1_0 a1_1 l1_2 l1_3) else (hanaperref05_Same.j0 k true a0_0 a0_1 l0_2 l0_3 a1_0 a1_1 l1_2 l1_3)) = some r := H
    have A8 := Aside0.mk A80
    clear A80
    by_cases c9 : t103 = true
    ·subst c9
     have H1 : (hanaperref05_Same.j0 k ((l0_3.length : Int) != (l1_3.length : Int)) a0_0 a0_1 l0_2 l0_3 a1_0 a1_1 l1_2 l1_3) = some r := by rw [if_pos rfl] at H; exact H
     clear H
     have H := H1
     clear H1
     have H' := Aside0.mk H
     clear H
     have hnb10 := NB101_102.out
     have hnc10 := NB102_101.out
     have hcz11_0 : w5.cell? ⟨gb101, 0, none⟩ = some (.int .i64 a0_0) := (blk_cell BK101.out 0).trans rfl
     have hcz11_1 : w5.cell? ⟨gb101, 1, none⟩ = some (.int .u64 a0_1) := (blk_cell BK101.out 1).trans rfl
     have hcz11_2 : w5.cell? ⟨gb101, 2, none⟩ = some (.slice A0_2 l0_2.length c0_2) := (blk_cell BK101.out 2).trans rfl
     have hcz11_3 : w5.cell? ⟨gb101, 3, none⟩ = some (.slice A0_3 l0_3.length c0_3) := (blk_cell BK101.out 3).trans rfl
     have hfz11_0 := blk_frozen BK101.out 0
     have hfz11_1 := blk_frozen BK101.out 1
     have hfz11_2 := blk_frozen BK101.out 2
     have hfz11_3 := blk_frozen BK101.out 3
     have hcz12_0 : w5.cell? ⟨gb102, 0, none⟩ = some (.int .i64 a1_0) := (blk_cell BK102.out 0).trans rfl
     have hcz12_1 : w5.cell? ⟨gb102, 1, none⟩ = some (.int .u64 a1_1) := (blk_cell BK102.out 1).trans rfl
     have hcz12_2 : w5.cell? ⟨gb102, 2, none⟩ = some (.slice A1_2 l1_2.length c1_2) := (blk_cell BK102.out 2).trans rfl
     have hcz12_3 : w5.cell? ⟨gb102, 3, none⟩ = some (.slice A1_3 l1_3.length c1_3) := (blk_cell BK102.out 3).trans rfl
     have hfz12_0 := blk_frozen BK102.out 0
     have hfz12_1 := blk_frozen BK102.out 1
     have hfz12_2 := blk_frozen BK102.out 2
     have hfz12_3 := blk_frozen BK102.out 3
     go_wp2_with (first | (go_at_call 14; (with_reducible refine (hanaperref01_Same.calls k _ _ l0_2 _ _ l1_2 true _ ?side1 ?side2 ?side3 ?side4 A8.out).mono ?_); (case side1 => repeat (first | exact (Kd.C_below HR0_2.out HB.out) | (with_reducible refine Kd.C_alloc ?_ _) | (with_reducible refine Kd.C_drewN ?_ _) | (with_reducible refine Kd.C_drew ?_))); (case side2 => exact HC0_2.out); (case side3 => repeat (first | exact (Kd.C_below HR1_2.out HB.out) | (with_reducible refine Kd.C_alloc ?_ _) | (with_reducible refine Kd.C_drewN ?_ _) | (with_reducible refine Kd.C_drew ?_))); (case side4 => exact HC1_2.out); rintro e w' ⟨rfl, ⟨nd, rfl⟩⟩))
     go_meet
     case rel => exact ⟨_, (((l0_3.length : Int) != (l1_3.length : Int))), (by first | rfl | (simp; done) | (simp [*]; done)), H', ⟨by first | omega | exact Nat.le_refl _⟩, ⟨by (with_reducible repeat (first | refine blk_drewN ?_ _ | refine blk_drew ?_ | refine blk_alloc ?_ _)); exact BK101.out⟩, ⟨by (with_reducible repeat (first | refine blk_drewN ?_ _ | refine blk_drew ?_ | refine blk_alloc ?_ _)); exact BK102.out⟩, ⟨by repeat (first | (with_reducible first | exact HB.out | apply below_alloc | apply pw_below_drewN | apply below_drew1 | refine below_set ?_ GE101.out | refine below_set ?_ GE102.out) | exact HB.out)⟩⟩
    ·replace c9 := Bool.eq_false_iff.mpr c9
     subst c9
     have H1 : (hanaperref05_Same.j0 k true a0_0 a0_1 l0_2 l0_3 a1_0 a1_1 l1_2 l1_3) = some r := by rw [if_neg (show ¬ (false = true) by decide)] at H; exact H
     clear H
     have H := H1
     clear H1
     have H' := Aside0.mk H
     clear H
     have hnb13 := NB101_102.out
     have hnc13 := NB102_101.out
     have hcz14_0 : w5.cell? ⟨gb101, 0, none⟩ = some (.int .i64 a0_0) := (blk_cell BK101.out 0).trans rfl
     have hcz14_1 : w5.cell? ⟨gb101, 1, none⟩ = some (.int .u64 a0_1) := (blk_cell BK101.out 1).trans rfl
     have hcz14_2 : w5.cell? ⟨gb101, 2, none⟩ = some (.slice A0_2 l0_2.length c0_2) := (blk_cell BK101.out 2).trans rfl
     have hcz14_3 : w5.cell? ⟨gb101, 3, none⟩ = some (.slice A0_3 l0_3.length c0_3) := (blk_cell BK101.out 3).trans rfl
     have hfz14_0 := blk_frozen BK101.out 0
     have hfz14_1 := blk_frozen BK101.out 1
     have hfz14_2 := blk_frozen BK101.out 2
     have hfz14_3 := blk_frozen BK101.out 3
     have hcz15_0 : w5.cell? ⟨gb102, 0, none⟩ = some (.int .i64 a1_0) := (blk_cell BK102.out 0).trans rfl
     have hcz15_1 : w5.cell? ⟨gb102, 1, none⟩ = some (.int .u64 a1_1) := (blk_cell BK102.out 1).trans rfl
     have hcz15_2 : w5.cell? ⟨gb102, 2, none⟩ = some (.slice A1_2 l1_2.length c1_2) := (blk_cell BK102.out 2).trans rfl
     have hcz15_3 : w5.cell? ⟨gb102, 3, none⟩ = some (.slice A1_3 l1_3.length c1_3) := (blk_cell BK102.out 3).trans rfl
     have hfz15_0 := blk_frozen BK102.out 0
     have hfz15_1 := blk_frozen BK102.out 1
     have hfz15_2 := blk_frozen BK102.out 2
     have hfz15_3 := blk_frozen BK102.out 3
     go_wp2_with (first | (go_at_call 14; (with_reducible refine (hanaperref01_Same.calls k _ _ l0_2 _ _ l1_2 false _ ?side1 ?side2 ?side3 ?side4 A8.out).mono ?_); (case side1 => repeat (first | exact (Kd.C_below HR0_2.out HB.out) | (with_reducible refine Kd.C_alloc ?_ _) | (with_reducible refine Kd.C_drewN ?_ _) | (with_reducible refine Kd.C_drew ?_))); (case side2 => exact HC0_2.out); (case side3 => repeat (first | exact (Kd.C_below HR1_2.out HB.out) | (with_reducible refine Kd.C_alloc ?_ _) | (with_reducible refine Kd.C_drewN ?_ _) | (with_reducible refine Kd.C_drew ?_))); (case side4 => exact HC1_2.out); rintro e w' ⟨rfl, ⟨nd, rfl⟩⟩))
     go_meet
     case rel => exact ⟨_, (true), (by first | rfl | (simp; done) | (simp [*]; done)), H', ⟨by first | omega | exact Nat.le_refl _⟩, ⟨by (with_reducible repeat (first | refine blk_drewN ?_ _ | refine blk_drew ?_ | refine blk_alloc ?_ _)); exact BK101.out⟩, ⟨by (with_reducible repeat (first | refine blk_drewN ?_ _ | refine blk_drew ?_ | refine blk_alloc ?_ _)); exact BK102.out⟩, ⟨by repeat (first | (with_reducible first | exact HB.out | apply below_alloc | apply pw_below_drewN | apply below_drew1 | refine below_set ?_ GE101.out | refine below_set ?_ GE102.out) | exact HB.out)⟩⟩
   ·rw [if_neg c7] at H
    have c7b0 : (a0_1 == a1_1) = false := beq_eq_false_iff_ne.mpr c7
    have c7b1 : (a0_1 != a1_1) = true := bne_iff_ne.mpr c7
    have H' := Aside0.mk H
    clear H
    have hnb16 := NB101_102.out
    have hnc16 := NB102_101.out
    have hcz17_0 : w5.cell? ⟨gb101, 0, none⟩ = some (.int .i64 a0_0) := (blk_cell BK101.out 0).trans rfl
    have hcz17_1 : w5.cell? ⟨gb101, 1, none⟩ = some (.int .u64 a0_1) := (blk_cell BK101.out 1).trans rfl
    have hcz17_2 : w5.cell? ⟨gb101, 2, none⟩ = some (.slice A0_2 l0_2.length c0_2) := (blk_cell BK101.out 2).trans rfl
    have hcz17_3 : w5.cell? ⟨gb101, 3, none⟩ = some (.slice A0_3 l0_3.length c0_3) := (blk_cell BK101.out 3).trans rfl
    have hfz17_0 := blk_frozen BK101.out 0
    have hfz17_1 := blk_frozen BK101.out 1
    have hfz17_2 := blk_frozen BK101.out 2
    have hfz17_3 := blk_frozen BK101.out 3
    have hcz18_0 : w5.cell? ⟨gb102, 0, none⟩ = some (.int .i64 a1_0) := (blk_cell BK102.out 0).trans rfl
    have hcz18_1 : w5.cell? ⟨gb102, 1, none⟩ = some (.int .u64 a1_1) := (blk_cell BK102.out 1).trans rfl
    have hcz18_2 : w5.cell? ⟨gb102, 2, none⟩ = some (.slice A1_2 l1_2.length c1_2) := (blk_cell BK102.out 2).trans rfl
    have hcz18_3 : w5.cell? ⟨gb102, 3, none⟩ = some (.slice A1_3 l1_3.length c1_3) := (blk_cell BK102.out 3).trans rfl
    have hfz18_0 := blk_frozen BK102.out 0
    have hfz18_1 := blk_frozen BK102.out 1
    have hfz18_2 := blk_frozen BK102.out 2
    have hfz18_3 := blk_frozen BK102.out 3
    go_wp2
    go_meet
    case rel => exact ⟨_, (true), (by first | rfl | (simp; done) | (simp [*]; done)), H', ⟨by first | omega | exact Nat.le_refl _⟩, ⟨by (with_reducible repeat (first | refine blk_drewN ?_ _ | refine blk_drew ?_ | refine blk_alloc ?_ _)); exact BK101.out⟩, ⟨by (with_reducible repeat (first | refine blk_drewN ?_ _ | refine blk_drew ?_ | refine blk_alloc ?_ _)); exact BK102.out⟩, ⟨by repeat (first | (with_reducible first | exact HB.out | apply below_alloc | apply pw_below_drewN | apply below_drew1 | refine below_set ?_ GE101.out | refine below_set ?_ GE102.out) | exact HB.out)⟩⟩
  ·rw [if_neg c6] at H
   have c6b0 : (a0_0 == a1_0) = false := beq_eq_false_iff_ne.mpr c6
   have c6b1 : (a0_0 != a1_0) = true := bne_iff_ne.mpr c6
   (first | rw [c6b0] | (simp only [i64_w, i32_w]; rw [c6b0]) | skip)
   have H' := Aside0.mk H
   clear H
   have hnb19 := NB101_102.out
   have hnc19 := NB102_101.out
   have hcz20_0 : w5.cell? ⟨gb101, 0, none⟩ = some (.int .i64 a0_0) := (blk_cell BK101.out 0).trans rfl
   have hcz20_1 : w5.cell? ⟨gb101, 1, none⟩ = some (.int .u64 a0_1) := (blk_cell BK101.out 1).trans rfl
   have hcz20_2 : w5.cell? ⟨gb101, 2, none⟩ = some (.slice A0_2 l0_2.length c0_2) := (blk_cell BK101.out 2).trans rfl
   have hcz20_3 : w5.cell? ⟨gb101, 3, none⟩ = some (.slice A0_3 l0_3.length c0_3) := (blk_cell BK101.out 3).trans rfl
   have hfz20_0 := blk_frozen BK101.out 0
   have hfz20_1 := blk_frozen BK101.out 1
   have hfz20_2 := blk_frozen BK101.out 2
   have hfz20_3 := blk_frozen BK101.out 3
   have hcz21_0 : w5.cell? ⟨gb102, 0, none⟩ = some (.int .i64 a1_0) := (blk_cell BK102.out 0).trans rfl
   have hcz21_1 : w5.cell? ⟨gb102, 1, none⟩ = some (.int .u64 a1_1) := (blk_cell BK102.out 1).trans rfl
   have hcz21_2 : w5.cell? ⟨gb102, 2, none⟩ = some (.slice A1_2 l1_2.length c1_2) := (blk_cell BK102.out 2).trans rfl
   have hcz21_3 : w5.cell? ⟨gb102, 3, none⟩ = some (.slice A1_3 l1_3.length c1_3) := (blk_cell BK102.out 3).trans rfl
   have hfz21_0 := blk_frozen BK102.out 0
   have hfz21_1 := blk_frozen BK102.out 1
   have hfz21_2 := blk_frozen BK102.out 2
   have hfz21_3 := blk_frozen BK102.out 3
   go_wp2
   go_meet
   case rel => exact ⟨_, (true), (by first | rfl | (simp; done) | (simp [*]; done)), H', ⟨by first | omega | exact Nat.le_refl _⟩, ⟨by (with_reducible repeat (first | refine blk_drewN ?_ _ | refine blk_drew ?_ | refine blk_alloc ?_ _)); exact BK101.out⟩, ⟨by (with_reducible repeat (first | refine blk_drewN ?_ _ | refine blk_drew ?_ | refine blk_alloc ?_ _)); exact BK102.out⟩, ⟨by repeat (first | (with_reducible first | exact HB.out | apply below_alloc | apply pw_below_drewN | apply below_drew1 | refine below_set ?_ GE101.out | refine below_set ?_ GE102.out) | exact HB.out)⟩⟩
 case rest =>
  clear HC3
  (try clear c1);(try clear c2);(try clear p2);(try clear c6);(try clear c6b0);(try clear c6b1);(try clear c7);(try clear c7b0);(try clear c7b1);(try clear c9);(try clear c10);(try clear c13);(try clear c16);(try clear c19);(try clear c20);(try clear hcz11_0);(try clear hcz11_1);(try clear hcz11_2);(try clear hcz11_3);(try clear hcz12_0);(try clear hcz12_1);(try clear hcz12_2);(try clear hcz12_3);(try clear hcz14_0);(try clear hcz14_1);(try clear hcz14_2);(try clear hcz14_3);(try clear hcz15_0);(try clear hcz15_1);(try clear hcz15_2);(try clear hcz15_3);(try clear hcz17_0);(try clear hcz17_1);(try clear hcz17_2);(try clear hcz17_3);(try clear hcz18_0);(try clear hcz18_1);(try clear hcz18_2);(try clear hcz18_3);(try clear hcz20_0);(try clear hcz20_1);(try clear hcz20_2);(try clear hcz20_3);(try clear hcz21_0);(try clear hcz21_1);(try clear hcz21_2);(try clear hcz21_3);(try clear hfz11_0);(try clear hfz11_1);(try clear hfz11_2);(try clear hfz11_3);(try clear hfz12_0);(try clear hfz12_1);(try clear hfz12_2);(try clear hfz12_3);(try clear hfz14_0);(try clear hfz14_1);(try clear hfz14_2);(try clear hfz14_3);(try clear hfz15_0);(try clear hfz15_1);(try clear hfz15_2);(try clear hfz15_3);(try clear hfz17_0);(try clear hfz17_1);(try clear hfz17_2);(try clear hfz17_3);(try clear hfz18_0);(try clear hfz18_1);(try clear hfz18_2);(try clear hfz18_3);(try clear hfz20_0);(try clear hfz20_1);(try clear hfz20_2);(try clear hfz20_3);(try clear hfz21_0);(try clear hfz21_1);(try clear hfz21_2);(try clear hfz21_3)
  obtain ⟨kq, x34_2, rfl, HA, HJ2, BK101, BK102, HB⟩ := hcut
  cases kq with
  | zero => exact absurd HA.out (by simp [hanaperref05_Same.j0])
  | succ kj2 =>
   have H := HA.out
   clear HA
   simp only [hanaperref05_Same.j0] at H
   by_cases c22 : x34_2 = true
   ·subst c22
    have H1 : (some false) = some r := by rw [if_pos rfl] at H; exact H
    clear H
    have H := H1
    clear H1
    obtain rfl := Option.some.inj H
    go_wp2
    go_ret
    exact ⟨by first | rfl | (simp [errW_none, errW_some] <;> rfl) | (simp [*, errW_none, errW_some] <;> rfl), by repeat (first | (with_reducible first | exact HB.out | apply below_alloc | apply pw_below_drewN | apply below_drew1 | refine below_set ?_ GE101.out | refine below_set ?_ GE102.out) | exact HB.out)⟩
   ·replace c22 := Bool.eq_false_iff.mpr c22
    subst c22
    have H1 : (hanaperref05_Same.l0 kj2 0 a0_0 a0_1 l0_2 l0_3 a1_0 a1_1 l1_2 l1_3) = some r := by rw [if_neg (show ¬ (false = true) by decide)] at H; exact H
    clear H
    have H := H1
    clear H1
    have H' := Aside0.mk H
    clear H
    go_wp2
    go_loopg [5] kj2 (fun kq v5 w' => ∃ (x5_2 : Int), v5 = .int .i64 x5_2 ∧ Aside0 (hanaperref05_Same.l0 kq x5_2 a0_0 a0_1 l0_2 l0_3 a1_0 a1_1 l1_2 l1_3 = some r) ∧ Aside0 (kq ≤ kj2) ∧ Aside0 (w'.heap[gb101]? = some (.cells #[.int .i64 a0_0, .int .u64 a0_1, (.slice A0_2 l0_2.length c0_2), (.slice A0_3 l0_3.length c0_3)] 26 (0, 0))) ∧ Aside0 (w'.heap[gb102]? = some (.cells #[.int .i64 a1_0, .int .u64 a1_1, (.slice A1_2 l1_2.length c1_2), (.slice A1_3 l1_3.length c1_3)] 26 (0, 0))) ∧ Aside0 (Below w.heap.size w w'))
    case atStart => exact ⟨(0), (by first | rfl | (simp; done) | (simp [*]; done)), H', ⟨Nat.le_refl _⟩, ⟨by (with_reducible repeat (first | refine blk_drewN ?_ _ | refine blk_drew ?_ | refine blk_alloc ?_ _)); exact BK101.out⟩, ⟨by (with_reducible repeat (first | refine blk_drewN ?_ _ | refine blk_drew ?_ | refine blk_alloc ?_ _)); exact BK102.out⟩, ⟨by repeat (first | (with_reducible first | exact HB.out | apply below_alloc | apply pw_below_drewN | apply below_drew1 | refine below_set ?_ GE101.out | refine below_set ?_ GE102.out) | exact HB.out)⟩⟩
    case round =>
     clear H'
     (try clear c1);(try clear c2);(try clear p2);(try clear c6);(try clear c6b0);(try clear c6b1);(try clear c7);(try clear c7b0);(try clear c7b1);(try clear c9);(try clear c10);(try clear c13);(try clear c16);(try clear c19);(try clear c20);(try clear c22);(try clear hcz11_0);(try clear hcz11_1);(try clear hcz11_2);(try clear hcz11_3);(try clear hcz12_0);(try clear hcz12_1);(try clear hcz12_2);(try clear hcz12_3);(try clear hcz14_0);(try clear hcz14_1);(try clear hcz14_2);(try clear hcz14_3);(try clear hcz15_0);(try clear hcz15_1);(try clear hcz15_2);(try clear hcz15_3);(try clear hcz17_0);(try clear hcz17_1);(try clear hcz17_2);(try clear hcz17_3);(try clear hcz18_0);(try clear hcz18_1);(try clear hcz18_2);(try clear hcz18_3);(try clear hcz20_0);(try clear hcz20_1);(try clear hcz20_2);(try clear hcz20_3);(try clear hcz21_0);(try clear hcz21_1);(try clear hcz21_2);(try clear hcz21_3);(try clear hfz11_0);(try clear hfz11_1);(try clear hfz11_2);(try clear hfz11_3);(try clear hfz12_0);(try clear hfz12_1);(try clear hfz12_2);(try clear hfz12_3);(try clear hfz14_0);(try clear hfz14_1);(try clear hfz14_2);(try clear hfz14_3);(try clear hfz15_0);(try clear hfz15_1);(try clear hfz15_2);(try clear hfz15_3);(try clear hfz17_0);(try clear hfz17_1);(try clear hfz17_2);(try clear hfz17_3);(try clear hfz18_0);(try clear hfz18_1);(try clear hfz18_2);(try clear hfz18_3);(try clear hfz20_0);(try clear hfz20_1);(try clear hfz20_2);(try clear hfz20_3);(try clear hfz21_0);(try clear hfz21_1);(try clear hfz21_2);(try clear hfz21_3);(try clear p2)
     obtain ⟨x5_2, rfl, HA, HK2, BK101, BK102, HB⟩ := hrel
     cases gk with
     | zero => exact absurd HA.out (by simp [hanaperref05_Same.l0])
     | succ k2 =>
      have H := HA.out
      clear HA
      simp only [hanaperref05_Same.l0] at H
      by_cases c23 : x5_2 < (l0_3.length : Int)
      ·rw [if_pos c23] at H
       have c23b0 : decide (x5_2 < (l0_3.length : Int)) = true := decide_eq_true c23
       clear c23
       by_cases c24 : 0 ≤ x5_2
       ·rw [if_pos c24] at H
        have c24b0 : decide (0 ≤ x5_2) = true := decide_eq_true c24
        clear c24
        by_cases c25 : x5_2 < (l1_3.length : Int)
        ·rw [if_pos c25] at H
         have c25b0 : decide (x5_2 < (l1_3.length : Int)) = true := decide_eq_true c25
         clear c25
         replace H := Option.bind_eq_some_iff.mp H
         obtain ⟨t106, A260, H⟩ := H
         replace H : (if t106 = true then (hanaperref05_Same.l0 k2 (wrap64 (x5_2 + 1)) a0_0 a0_1 l0_2 l0_3 a1_0 a1_1 l1_2 l1_3) else (some false)) = some r := H
         have A26 := Aside0.mk A260
         clear A260
         by_cases c27 : t106 = true
         ·subst c27
          have H1 : (hanaperref05_Same.l0 k2 (wrap64 (x5_2 + 1)) a0_0 a0_1 l0_2 l0_3 a1_0 a1_1 l1_2 l1_3) = some r := by rw [if_pos rfl] at H; exact H
          clear H
          have H := H1
          clear H1
          have H' := Aside0.mk H
          clear H
          have hnb28 := NB101_102.out
          have hnc28 := NB102_101.out
          have hcz29_0 : wr.cell? ⟨gb101, 0, none⟩ = some (.int .i64 a0_0) := (blk_cell BK101.out 0).trans rfl
          have hcz29_1 : wr.cell? ⟨gb101, 1, none⟩ = some (.int .u64 a0_1) := (blk_cell BK101.out 1).trans rfl
          have hcz29_2 : wr.cell? ⟨gb101, 2, none⟩ = some (.slice A0_2 l0_2.length c0_2) := (blk_cell BK101.out 2).trans rfl
          have hcz29_3 : wr.cell? ⟨gb101, 3, none⟩ = some (.slice A0_3 l0_3.length c0_3) := (blk_cell BK101.out 3).trans rfl
          have hfz29_0 := blk_frozen BK101.out 0
          have hfz29_1 := blk_frozen BK101.out 1
          have hfz29_2 := blk_frozen BK101.out 2
          have hfz29_3 := blk_frozen BK101.out 3
          try go_wp2
          have n0_ := Aside0.mk (blk_drew BK101.out)
          have n1_ := Aside0.mk (blk_drew BK102.out)
          have n2_ := Aside0.mk (below_drew1 HB.out)
          clear BK101
          clear BK102
          clear HB
          have BK101 := n0_
          have BK102 := n1_
          have HB := n2_
          clear n0_ n1_ n2_
          have p104 : 0 ≤ (x5_2 : Int) := of_decide_eq_true (by first | (with_reducible assumption) | assumption)
          have q104 : x5_2 < (l0_3.length : Int) := of_decide_eq_true (by first | (with_reducible assumption) | assumption)
          obtain ⟨ad104, A104_2, c104_2, A104_3, c104_3, e104, hx104_0, hx104_1, hx104_2, hx104_3, hl104_2, hi104_2, hl104_3, hi104_3⟩ := at_T26 HR0_3.out x5_2 p104 q104
          have hw104_3 := hx104_3
          have hw104_2 := hx104_2
          have hw104_1 := hx104_1
          have hw104_0 := hx104_0
          cases e104
          replace hx104_0 := (HB.out.cell (World.block_lt_of_cell? w _ hx104_0)).trans hx104_0
          replace hx104_1 := (HB.out.cell (World.block_lt_of_cell? w _ hx104_1)).trans hx104_1
          replace hx104_2 := (HB.out.cell (World.block_lt_of_cell? w _ hx104_2)).trans hx104_2
          replace hx104_3 := (HB.out.cell (World.block_lt_of_cell? w _ hx104_3)).trans hx104_3
          have HR104_2 := Aside0.mk hi104_2
          have HC104_2 := Aside0.mk hl104_2
          clear hi104_2 hl104_2
          have HR104_3 := Aside0.mk hi104_3
          have HC104_3 := Aside0.mk hl104_3
          clear hi104_3 hl104_3
          replace p104 := eq_true p104
          replace q104 := eq_true q104
          have p105 : 0 ≤ (x5_2 : Int) := of_decide_eq_true (by first | (with_reducible assumption) | assumption)
          have q105 : x5_2 < (l1_3.length : Int) := of_decide_eq_true (by first | (with_reducible assumption) | assumption)
          obtain ⟨ad105, A105_2, c105_2, A105_3, c105_3, e105, hx105_0, hx105_1, hx105_2, hx105_3, hl105_2, hi105_2, hl105_3, hi105_3⟩ := at_T26 HR1_3.out x5_2 p105 q105
          have hw105_3 := hx105_3
          have hw105_2 := hx105_2
          have hw105_1 := hx105_1
          have hw105_0 := hx105_0
          cases e105
          replace hx105_0 := (HB.out.cell (World.block_lt_of_cell? w _ hx105_0)).trans hx105_0
          replace hx105_1 := (HB.out.cell (World.block_lt_of_cell? w _ hx105_1)).trans hx105_1
          replace hx105_2 := (HB.out.cell (World.block_lt_of_cell? w _ hx105_2)).trans hx105_2
          replace hx105_3 := (HB.out.cell (World.block_lt_of_cell? w _ hx105_3)).trans hx105_3
          have HR105_2 := Aside0.mk hi105_2
          have HC105_2 := Aside0.mk hl105_2
          clear hi105_2 hl105_2
          have HR105_3 := Aside0.mk hi105_3
          have HC105_3 := Aside0.mk hl105_3
          clear hi105_3 hl105_3
          replace p105 := eq_true p105
          replace q105 := eq_true q105
          refine start_ (n := 12) (S := fun w' => w'.cell? ⟨gb101, 0, none⟩ = some (.int .i64 a0_0) ∧ w'.cell? ⟨gb101, 1, none⟩ = some (.int .u64 a0_1) ∧ w'.cell? ⟨gb101, 2, none⟩ = some (.slice A0_2 l0_2.length c0_2) ∧ w'.cell? ⟨gb101, 3, none⟩ = some (.slice (some ad104) l0_3.length c0_3) ∧ w'.cell? ⟨gb102, 0, none⟩ = some (.int .i64 a1_0) ∧ w'.cell? ⟨gb102, 1, none⟩ = some (.int .u64 a1_1) ∧ w'.cell? ⟨gb102, 2, none⟩ = some (.slice A1_2 l1_2.length c1_2) ∧ w'.cell? ⟨gb102, 3, none⟩ = some (.slice (some ad105) l1_3.length c1_3) ∧ w'.cell? (ad104.add ((x5_2).toNat * 4)) = some (.int .i64 ((rd_T26 l0_3 x5_2).f0)) ∧ w'.cell? ⟨(ad104.add ((x5_2).toNat * 4)).block, (ad104.add ((x5_2).toNat * 4)).off + 1, none⟩ = some (.int .u64 ((rd_T26 l0_3 x5_2).f1)) ∧ w'.cell? ⟨(ad104.add ((x5_2).toNat * 4)).block, (ad104.add ((x5_2).toNat * 4)).off + 2, none⟩ = some (.slice A104_2 ((rd_T26 l0_3 x5_2).f2).length c104_2) ∧ w'.cell? ⟨(ad104.add ((x5_2).toNat * 4)).block, (ad104.add ((x5_2).toNat * 4)).off + 3, none⟩ = some (.slice A104_3 ((rd_T26 l0_3 x5_2).f3).length c104_3) ∧ w'.cell? (ad105.add ((x5_2).toNat * 4)) = some (.int .i64 ((rd_T26 l1_3 x5_2).f0)) ∧ w'.cell? ⟨(ad105.add ((x5_2).toNat * 4)).block, (ad105.add ((x5_2).toNat * 4)).off + 1, none⟩ = some (.int .u64 ((rd_T26 l1_3 x5_2).f1)) ∧ w'.cell? ⟨(ad105.add ((x5_2).toNat * 4)).block, (ad105.add ((x5_2).toNat * 4)).off + 2, none⟩ = some (.slice A105_2 ((rd_T26 l1_3 x5_2).f2).length c105_2) ∧ w'.cell? ⟨(ad105.add ((x5_2).toNat * 4)).block, (ad105.add ((x5_2).toNat * 4)).off + 3, none⟩ = some (.slice A105_3 ((rd_T26 l1_3 x5_2).f3).length c105_3)) (ds := []) #[false, false, false, false, false, false, false, false, false, false, false, false] (by kernel_rfl) rfl rfl ⟨(blk_cell BK101.out 0).trans rfl, (blk_cell BK101.out 1).trans rfl, (blk_cell BK101.out 2).trans rfl, (blk_cell BK101.out 3).trans rfl, (blk_cell BK102.out 0).trans rfl, (blk_cell BK102.out 1).trans rfl, (blk_cell BK102.out 2).trans rfl, (blk_cell BK102.out 3).trans rfl, ((HB.out.cell (World.block_lt_of_cell? w _ hw104_0)).trans hw104_0), ((HB.out.cell (World.block_lt_of_cell? w _ hw104_1)).trans hw104_1), ((HB.out.cell (World.block_lt_of_cell? w _ hw104_2)).trans hw104_2), ((HB.out.cell (World.block_lt_of_cell? w _ hw104_3)).trans hw104_3), ((HB.out.cell (World.block_lt_of_cell? w _ hw105_0)).trans hw105_0), ((HB.out.cell (World.block_lt_of_cell? w _ hw105_1)).trans hw105_1), ((HB.out.cell (World.block_lt_of_cell? w _ hw105_2)).trans hw105_2), ((HB.out.cell (World.block_lt_of_cell? w _ hw105_3)).trans hw105_3)⟩ (fun hHeld => ?_); refine with_tabW hanaperref05_Same.tab6 hanaperref05_Same.bits6 (fun HT_ HW_ => ?_)
          generalize wr.drew = w30 at BK101 BK102 HB HR104_2 HR104_3 HR105_2 HR105_3 hx104_0 hx104_1 hx104_2 hx104_3 hx105_0 hx105_1 hx105_2 hx105_3 hHeld ⊢
          refine pure_ (i := 0) (N := some 42) (v := ?_) (a' := ?_) #[true, false, false, false, false, false, false, false, false, false, false, false] rfl rfl (any_of HT_.out (by kernel_rfl)) (fun _ _ _ h => h) (Or.inl ⟨by rfl, ?_⟩) ?_ ?_
          rotate_left
          ·intro w'
           go_simp
           with_reducible rfl
          rotate_left
          ·simp only [Act.put, List.setIfInBounds_toArray, List.set_cons_zero, List.set_cons_succ, i64_w, i32_w]
           rfl
          refine pure_ (i := 2) (N := some 44) (v := ?_) (a' := ?_) #[true, false, true, false, false, false, false, false, false, false, false, false] rfl rfl (any_of HT_.out (by kernel_rfl)) (fun _ _ _ h => h) (Or.inl ⟨by rfl, ?_⟩) ?_ ?_
          rotate_left
          ·intro w'
           go_simp
           with_reducible rfl
          rotate_left
          ·simp only [Act.put, List.setIfInBounds_toArray, List.set_cons_zero, List.set_cons_succ, i64_w, i32_w]
           rfl
          refine pure_ (i := 5) (N := some 47) (v := ?_) (a' := ?_) #[true, false, true, false, false, true, false, false, false, false, false, false] rfl rfl (any_of HT_.out (by kernel_rfl)) (fun _ _ _ h => h) (Or.inl ⟨by rfl, ?_⟩) ?_ ?_
          rotate_left
          ·intro w'
           go_simp
           with_reducible rfl
          rotate_left
          ·simp only [Act.put, List.setIfInBounds_toArray, List.set_cons_zero, List.set_cons_succ, i64_w, i32_w]
           rfl
          refine pure_ (i := 7) (N := some 49) (v := ?_) (a' := ?_) #[true, false, true, false, false, true, false, true, false, false, false, false] rfl rfl (any_of HT_.out (by kernel_rfl)) (fun _ _ _ h => h) (Or.inl ⟨by rfl, ?_⟩) ?_ ?_
          rotate_left
          ·intro w'
           go_simp
           with_reducible rfl
          rotate_left
          ·simp only [Act.put, List.setIfInBounds_toArray, List.set_cons_zero, List.set_cons_succ, i64_w, i32_w]
           rfl
          refine take_ (i := 1) (N := some 43) (v := ?_) (a' := ?_) #[true, true, true, false, false, true, false, true, false, false, false, false] rfl rfl (take_ofW HT_.out HW_.out (by kernel_rfl)) (fun _ _ _ h => h) (Or.inl ⟨by rfl, ?_⟩) hHeld ?_ ?_
          rotate_left
          ·rintro w' ⟨s0, s1, s2, s3, s4, s5, s6, s7, s8, s9, s10, s11, s12, s13, s14, s15⟩
           go_simp
           with_reducible rfl
          rotate_left
          ·simp only [Act.put, List.setIfInBounds_toArray, List.set_cons_zero, List.set_cons_succ, i64_w, i32_w]
           rfl
          refine pure_ (i := 3) (N := some 45) (v := ?_) (a' := ?_) #[true, true, true, true, false, true, false, true, false, false, false, false] rfl rfl (any_of HT_.out (by kernel_rfl)) (fun _ _ _ h => h) (Or.inl ⟨by rfl, ?_⟩) ?_ ?_
          rotate_left
          ·intro w'
           go_simp
           with_reducible rfl
          rotate_left
          ·simp only [Act.put, List.setIfInBounds_toArray, List.set_cons_zero, List.set_cons_succ, i64_w, i32_w]
           rfl
          refine take_ (i := 4) (N := some 46) (v := ?_) (a' := ?_) #[true, true, true, true, true, true, false, true, false, false, false, false] rfl rfl (take_ofW HT_.out HW_.out (by kernel_rfl)) (fun _ _ _ h => h) (Or.inl ⟨by rfl, ?_⟩) hHeld ?_ ?_
          rotate_left
          ·rintro w' ⟨s0, s1, s2, s3, s4, s5, s6, s7, s8, s9, s10, s11, s12, s13, s14, s15⟩
           go_simp
           with_reducible rfl
          rotate_left
          ·simp only [Act.put, List.setIfInBounds_toArray, List.set_cons_zero, List.set_cons_succ, i64_w, i32_w]
           rfl
          refine take_ (i := 6) (N := some 48) (v := ?_) (a' := ?_) #[true, true, true, true, true, true, true, true, false, false, false, false] rfl rfl (take_ofW HT_.out HW_.out (by kernel_rfl)) (fun _ _ _ h => h) (Or.inl ⟨by rfl, ?_⟩) hHeld ?_ ?_
          rotate_left
          ·rintro w' ⟨s0, s1, s2, s3, s4, s5, s6, s7, s8, s9, s10, s11, s12, s13, s14, s15⟩
           go_simp
           with_reducible rfl
          rotate_left
          ·simp only [Act.put, List.setIfInBounds_toArray, List.set_cons_zero, List.set_cons_succ, i64_w, i32_w]
           rfl
          refine pure_ (i := 8) (N := some 50) (v := ?_) (a' := ?_) #[true, true, true, true, true, true, true, true, true, false, false, false] rfl rfl (any_of HT_.out (by kernel_rfl)) (fun _ _ _ h => h) (Or.inl ⟨by rfl, ?_⟩) ?_ ?_
          rotate_left
          ·intro w'
           go_simp
           with_reducible rfl
          rotate_left
          ·simp only [Act.put, List.setIfInBounds_toArray, List.set_cons_zero, List.set_cons_succ, i64_w, i32_w]
           rfl
          refine take_ (i := 9) (N := some 51) (v := ?_) (a' := ?_) #[true, true, true, true, true, true, true, true, true, true, false, false] rfl rfl (take_ofW HT_.out HW_.out (by kernel_rfl)) (fun _ _ _ h => h) (Or.inl ⟨by rfl, ?_⟩) hHeld ?_ ?_
          rotate_left
          ·rintro w' ⟨s0, s1, s2, s3, s4, s5, s6, s7, s8, s9, s10, s11, s12, s13, s14, s15⟩
           go_simp
           with_reducible rfl
          rotate_left
          ·simp only [Act.put, List.setIfInBounds_toArray, List.set_cons_zero, List.set_cons_succ, i64_w, i32_w]
           rfl
          refine one_ (i := 10) (N := some 52) #[true, true, true, true, true, true, true, true, true, true, true, false] rfl rfl (one_of HT_.out (by kernel_rfl)) (by decide) (fun K hK => ?_)
          refine goes_ Try.func20 (by kernel_rfl) rfl #[.agg #[.int .i64 ((rd_T26 l0_3 x5_2).f0), .int .u64 ((rd_T26 l0_3 x5_2).f1), .slice A104_2 ((rd_T26 l0_3 x5_2).f2).length c104_2, .slice A104_3 ((rd_T26 l0_3 x5_2).f3).length c104_3], .agg #[.int .i64 ((rd_T26 l1_3 x5_2).f0), .int .u64 ((rd_T26 l1_3 x5_2).f1), .slice A105_2 ((rd_T26 l1_3 x5_2).f2).length c105_2, .slice A105_3 ((rd_T26 l1_3 x5_2).f3).length c105_3]] (by rfl) rfl rfl (by (try simp only [List.map_toArray, List.map_cons, List.map_nil]); first | done | rfl | (simp only [List.length_drop, List.length_take]; rfl)) ?_
          with_reducible refine (ih k2 (by have := HJ2.out; have := HK2.out; omega) ((rd_T26 l0_3 x5_2).f0) ((rd_T26 l0_3 x5_2).f1) _ _ ((rd_T26 l0_3 x5_2).f2) _ _ ((rd_T26 l0_3 x5_2).f3) ((rd_T26 l1_3 x5_2).f0) ((rd_T26 l1_3 x5_2).f1) _ _ ((rd_T26 l1_3 x5_2).f2) _ _ ((rd_T26 l1_3 x5_2).f3) true _ ?side1 ?side2 ?side3 ?side4 ?side5 ?side6 ?side7 ?side8 A26.out).mono ?_
          (case side1 => repeat (first | exact (Kd.C_below HR104_2.out HB.out) | (with_reducible refine Kd.C_alloc ?_ _) | (with_reducible refine Kd.C_drewN ?_ _) | (with_reducible refine Kd.C_drew ?_)))
          (case side2 => exact HC104_2.out)
          (case side3 => repeat (first | exact (Kd.C_below HR104_3.out HB.out) | (with_reducible refine Kd.C_alloc ?_ _) | (with_reducible refine Kd.C_drewN ?_ _) | (with_reducible refine Kd.C_drew ?_)))
          (case side4 => exact HC104_3.out)
          (case side5 => repeat (first | exact (Kd.C_below HR105_2.out HB.out) | (with_reducible refine Kd.C_alloc ?_ _) | (with_reducible refine Kd.C_drewN ?_ _) | (with_reducible refine Kd.C_drew ?_)))
          (case side6 => exact HC105_2.out)
          (case side7 => repeat (first | exact (Kd.C_below HR105_3.out HB.out) | (with_reducible refine Kd.C_alloc ?_ _) | (with_reducible refine Kd.C_drewN ?_ _) | (with_reducible refine Kd.C_drew ?_)))
          (case side8 => exact HC105_3.out)
          rintro e w31 ⟨rfl, hb⟩
          refine ⟨_, rfl, ?_⟩
          have n0_ := Aside0.mk (blk_below (g := gb101) (o := .cells #[.int .i64 a0_0, .int .u64 a0_1, .slice A0_2 l0_2.length c0_2, .slice (some ad104) l0_3.length c0_3] 26 (0, 0)) (by (with_reducible repeat (first | refine blk_drewN ?_ _ | refine blk_drew ?_ | refine blk_alloc ?_ _)); exact BK101.out) hb)
          have n1_ := Aside0.mk (blk_below (g := gb102) (o := .cells #[.int .i64 a1_0, .int .u64 a1_1, .slice A1_2 l1_2.length c1_2, .slice (some ad105) l1_3.length c1_3] 26 (0, 0)) (by (with_reducible repeat (first | refine blk_drewN ?_ _ | refine blk_drew ?_ | refine blk_alloc ?_ _)); exact BK102.out) hb)
          have n2_ := Aside0.mk (below_step (by repeat (first | (with_reducible first | exact HB.out | apply below_alloc | apply pw_below_drewN | apply below_drew1 | refine below_set ?_ GE101.out | refine below_set ?_ GE102.out) | exact HB.out)) hb)
          clear BK101
          clear BK102
          clear HB
          have BK101 := n0_
          have BK102 := n1_
          have HB := n2_
          clear n0_ n1_ n2_
          (try clear hb)
          (try clear hb2)
          (try clear hk)
          (try clear hi)
          refine hK.out _ _ ⟨(blk_cell BK101.out 0).trans rfl, (blk_cell BK101.out 1).trans rfl, (blk_cell BK101.out 2).trans rfl, (blk_cell BK101.out 3).trans rfl, (blk_cell BK102.out 0).trans rfl, (blk_cell BK102.out 1).trans rfl, (blk_cell BK102.out 2).trans rfl, (blk_cell BK102.out 3).trans rfl, ((HB.out.cell (World.block_lt_of_cell? w _ hw104_0)).trans hw104_0), ((HB.out.cell (World.block_lt_of_cell? w _ hw104_1)).trans hw104_1), ((HB.out.cell (World.block_lt_of_cell? w _ hw104_2)).trans hw104_2), ((HB.out.cell (World.block_lt_of_cell? w _ hw104_3)).trans hw104_3), ((HB.out.cell (World.block_lt_of_cell? w _ hw105_0)).trans hw105_0), ((HB.out.cell (World.block_lt_of_cell? w _ hw105_1)).trans hw105_1), ((HB.out.cell (World.block_lt_of_cell? w _ hw105_2)).trans hw105_2), ((HB.out.cell (World.block_lt_of_cell? w _ hw105_3)).trans hw105_3)⟩ (fun hHeld => ?_)
          clear hK K
          refine norm_ (a' := ?_) ?_ ?_
          rotate_left
          ·show Act.put _ (some 52) _ = _
           simp only [Act.put, List.setIfInBounds_toArray, List.set_cons_zero, List.set_cons_succ, i64_w, i32_w]
           rfl
          refine pure_ (i := 11) (N := some 53) (v := ?_) (a' := ?_) #[true, true, true, true, true, true, true, true, true, true, true, true] rfl rfl (any_of HT_.out (by kernel_rfl)) (fun _ _ _ h => h) (Or.inl ⟨by rfl, ?_⟩) ?_ ?_
          rotate_left
          ·intro w'
           go_simp
           with_reducible rfl
          rotate_left
          ·simp only [Act.put, List.setIfInBounds_toArray, List.set_cons_zero, List.set_cons_succ, i64_w, i32_w]
           rfl
          refine done_ (done_of HT_.out (by kernel_rfl)) ?_
          try go_wp2
          go_roundg k2
          case measure => have := HJ2.out; have := HK2.out; omega
          case rel => exact ⟨(wrap64 (x5_2 + 1)), (by first | rfl | (simp; done) | (simp [*]; done)), H', ⟨by have := HJ2.out; have := HK2.out; omega⟩, ⟨by (with_reducible repeat (first | refine blk_drewN ?_ _ | refine blk_drew ?_ | refine blk_alloc ?_ _)); exact BK101.out⟩, ⟨by (with_reducible repeat (first | refine blk_drewN ?_ _ | refine blk_drew ?_ | refine blk_alloc ?_ _)); exact BK102.out⟩, ⟨by repeat (first | (with_reducible first | exact HB.out | apply below_alloc | apply pw_below_drewN | apply below_drew1 | refine below_set ?_ GE101.out | refine below_set ?_ GE102.out) | exact HB.out)⟩⟩
         ·replace c27 := Bool.eq_false_iff.mpr c27
          subst c27
          have H1 : (some false) = some r := by rw [if_neg (show ¬ (false = true) by decide)] at H; exact H
          clear H
          have H := H1
          clear H1
          obtain rfl := Option.some.inj H
          have hnb32 := NB101_102.out
          have hnc32 := NB102_101.out
          have hcz33_0 : wr.cell? ⟨gb101, 0, none⟩ = some (.int .i64 a0_0) := (blk_cell BK101.out 0).trans rfl
          have hcz33_1 : wr.cell? ⟨gb101, 1, none⟩ = some (.int .u64 a0_1) := (blk_cell BK101.out 1).trans rfl
          have hcz33_2 : wr.cell? ⟨gb101, 2, none⟩ = some (.slice A0_2 l0_2.length c0_2) := (blk_cell BK101.out 2).trans rfl
          have hcz33_3 : wr.cell? ⟨gb101, 3, none⟩ = some (.slice A0_3 l0_3.length c0_3) := (blk_cell BK101.out 3).trans rfl
          have hfz33_0 := blk_frozen BK101.out 0
          have hfz33_1 := blk_frozen BK101.out 1
          have hfz33_2 := blk_frozen BK101.out 2
          have hfz33_3 := blk_frozen BK101.out 3
          try go_wp2
          have n0_ := Aside0.mk (blk_drew BK101.out)
          have n1_ := Aside0.mk (blk_drew BK102.out)
          have n2_ := Aside0.mk (below_drew1 HB.out)
          clear BK101
          clear BK102
          clear HB
          have BK101 := n0_
          have BK102 := n1_
          have HB := n2_
          clear n0_ n1_ n2_
          have p104 : 0 ≤ (x5_2 : Int) := of_decide_eq_true (by first | (with_reducible assumption) | assumption)
          have q104 : x5_2 < (l0_3.length : Int) := of_decide_eq_true (by first | (with_reducible assumption) | assumption)
          obtain ⟨ad104, A104_2, c104_2, A104_3, c104_3, e104, hx104_0, hx104_1, hx104_2, hx104_3, hl104_2, hi104_2, hl104_3, hi104_3⟩ := at_T26 HR0_3.out x5_2 p104 q104
          have hw104_3 := hx104_3
          have hw104_2 := hx104_2
          have hw104_1 := hx104_1
          have hw104_0 := hx104_0
          cases e104
          replace hx104_0 := (HB.out.cell (World.block_lt_of_cell? w _ hx104_0)).trans hx104_0
          replace hx104_1 := (HB.out.cell (World.block_lt_of_cell? w _ hx104_1)).trans hx104_1
          replace hx104_2 := (HB.out.cell (World.block_lt_of_cell? w _ hx104_2)).trans hx104_2
          replace hx104_3 := (HB.out.cell (World.block_lt_of_cell? w _ hx104_3)).trans hx104_3
          have HR104_2 := Aside0.mk hi104_2
          have HC104_2 := Aside0.mk hl104_2
          clear hi104_2 hl104_2
          have HR104_3 := Aside0.mk hi104_3
          have HC104_3 := Aside0.mk hl104_3
          clear hi104_3 hl104_3
          replace p104 := eq_true p104
          replace q104 := eq_true q104
          have p105 : 0 ≤ (x5_2 : Int) := of_decide_eq_true (by first | (with_reducible assumption) | assumption)
          have q105 : x5_2 < (l1_3.length : Int) := of_decide_eq_true (by first | (with_reducible assumption) | assumption)
          obtain ⟨ad105, A105_2, c105_2, A105_3, c105_3, e105, hx105_0, hx105_1, hx105_2, hx105_3, hl105_2, hi105_2, hl105_3, hi105_3⟩ := at_T26 HR1_3.out x5_2 p105 q105
          have hw105_3 := hx105_3
          have hw105_2 := hx105_2
          have hw105_1 := hx105_1
          have hw105_0 := hx105_0
          cases e105
          replace hx105_0 := (HB.out.cell (World.block_lt_of_cell? w _ hx105_0)).trans hx105_0
          replace hx105_1 := (HB.out.cell (World.block_lt_of_cell? w _ hx105_1)).trans hx105_1
          replace hx105_2 := (HB.out.cell (World.block_lt_of_cell? w _ hx105_2)).trans hx105_2
          replace hx105_3 := (HB.out.cell (World.block_lt_of_cell? w _ hx105_3)).trans hx105_3
          have HR105_2 := Aside0.mk hi105_2
          have HC105_2 := Aside0.mk hl105_2
          clear hi105_2 hl105_2
          have HR105_3 := Aside0.mk hi105_3
          have HC105_3 := Aside0.mk hl105_3
          clear hi105_3 hl105_3
          replace p105 := eq_true p105
          replace q105 := eq_true q105
          refine start_ (n := 12) (S := fun w' => w'.cell? ⟨gb101, 0, none⟩ = some (.int .i64 a0_0) ∧ w'.cell? ⟨gb101, 1, none⟩ = some (.int .u64 a0_1) ∧ w'.cell? ⟨gb101, 2, none⟩ = some (.slice A0_2 l0_2.length c0_2) ∧ w'.cell? ⟨gb101, 3, none⟩ = some (.slice (some ad104) l0_3.length c0_3) ∧ w'.cell? ⟨gb102, 0, none⟩ = some (.int .i64 a1_0) ∧ w'.cell? ⟨gb102, 1, none⟩ = some (.int .u64 a1_1) ∧ w'.cell? ⟨gb102, 2, none⟩ = some (.slice A1_2 l1_2.length c1_2) ∧ w'.cell? ⟨gb102, 3, none⟩ = some (.slice (some ad105) l1_3.length c1_3) ∧ w'.cell? (ad104.add ((x5_2).toNat * 4)) = some (.int .i64 ((rd_T26 l0_3 x5_2).f0)) ∧ w'.cell? ⟨(ad104.add ((x5_2).toNat * 4)).block, (ad104.add ((x5_2).toNat * 4)).off + 1, none⟩ = some (.int .u64 ((rd_T26 l0_3 x5_2).f1)) ∧ w'.cell? ⟨(ad104.add ((x5_2).toNat * 4)).block, (ad104.add ((x5_2).toNat * 4)).off + 2, none⟩ = some (.slice A104_2 ((rd_T26 l0_3 x5_2).f2).length c104_2) ∧ w'.cell? ⟨(ad104.add ((x5_2).toNat * 4)).block, (ad104.add ((x5_2).toNat * 4)).off + 3, none⟩ = some (.slice A104_3 ((rd_T26 l0_3 x5_2).f3).length c104_3) ∧ w'.cell? (ad105.add ((x5_2).toNat * 4)) = some (.int .i64 ((rd_T26 l1_3 x5_2).f0)) ∧ w'.cell? ⟨(ad105.add ((x5_2).toNat * 4)).block, (ad105.add ((x5_2).toNat * 4)).off + 1, none⟩ = some (.int .u64 ((rd_T26 l1_3 x5_2).f1)) ∧ w'.cell? ⟨(ad105.add ((x5_2).toNat * 4)).block, (ad105.add ((x5_2).toNat * 4)).off + 2, none⟩ = some (.slice A105_2 ((rd_T26 l1_3 x5_2).f2).length c105_2) ∧ w'.cell? ⟨(ad105.add ((x5_2).toNat * 4)).block, (ad105.add ((x5_2).toNat * 4)).off + 3, none⟩ = some (.slice A105_3 ((rd_T26 l1_3 x5_2).f3).length c105_3)) (ds := []) #[false, false, false, false, false, false, false, false, false, false, false, false] (by kernel_rfl) rfl rfl ⟨(blk_cell BK101.out 0).trans rfl, (blk_cell BK101.out 1).trans rfl, (blk_cell BK101.out 2).trans rfl, (blk_cell BK101.out 3).trans rfl, (blk_cell BK102.out 0).trans rfl, (blk_cell BK102.out 1).trans rfl, (blk_cell BK102.out 2).trans rfl, (blk_cell BK102.out 3).trans rfl, ((HB.out.cell (World.block_lt_of_cell? w _ hw104_0)).trans hw104_0), ((HB.out.cell (World.block_lt_of_cell? w _ hw104_1)).trans hw104_1), ((HB.out.cell (World.block_lt_of_cell? w _ hw104_2)).trans hw104_2), ((HB.out.cell (World.block_lt_of_cell? w _ hw104_3)).trans hw104_3), ((HB.out.cell (World.block_lt_of_cell? w _ hw105_0)).trans hw105_0), ((HB.out.cell (World.block_lt_of_cell? w _ hw105_1)).trans hw105_1), ((HB.out.cell (World.block_lt_of_cell? w _ hw105_2)).trans hw105_2), ((HB.out.cell (World.block_lt_of_cell? w _ hw105_3)).trans hw105_3)⟩ (fun hHeld => ?_); refine with_tabW hanaperref05_Same.tab6 hanaperref05_Same.bits6 (fun HT_ HW_ => ?_)
          generalize wr.drew = w34 at BK101 BK102 HB HR104_2 HR104_3 HR105_2 HR105_3 hx104_0 hx104_1 hx104_2 hx104_3 hx105_0 hx105_1 hx105_2 hx105_3 hHeld ⊢
          refine pure_ (i := 0) (N := some 42) (v := ?_) (a' := ?_) #[true, false, false, false, false, false, false, false, false, false, false, false] rfl rfl (any_of HT_.out (by kernel_rfl)) (fun _ _ _ h => h) (Or.inl ⟨by rfl, ?_⟩) ?_ ?_
          rotate_left
          ·intro w'
           go_simp
           with_reducible rfl
          rotate_left
          ·simp only [Act.put, List.setIfInBounds_toArray, List.set_cons_zero, List.set_cons_succ, i64_w, i32_w]
           rfl
          refine pure_ (i := 2) (N := some 44) (v := ?_) (a' := ?_) #[true, false, true, false, false, false, false, false, false, false, false, false] rfl rfl (any_of HT_.out (by kernel_rfl)) (fun _ _ _ h => h) (Or.inl ⟨by rfl, ?_⟩) ?_ ?_
          rotate_left
          ·intro w'
           go_simp
           with_reducible rfl
          rotate_left
          ·simp only [Act.put, List.setIfInBounds_toArray, List.set_cons_zero, List.set_cons_succ, i64_w, i32_w]
           rfl
          refine pure_ (i := 5) (N := some 47) (v := ?_) (a' := ?_) #[true, false, true, false, false, true, false, false, false, false, false, false] rfl rfl (any_of HT_.out (by kernel_rfl)) (fun _ _ _ h => h) (Or.inl ⟨by rfl, ?_⟩) ?_ ?_
          rotate_left
          ·intro w'
           go_simp
           with_reducible rfl
          rotate_left
          ·simp only [Act.put, List.setIfInBounds_toArray, List.set_cons_zero, List.set_cons_succ, i64_w, i32_w]
           rfl
          refine pure_ (i := 7) (N := some 49) (v := ?_) (a' := ?_) #[true, false, true, false, false, true, false, true, false, false, false, false] rfl rfl (any_of HT_.out (by kernel_rfl)) (fun _ _ _ h => h) (Or.inl ⟨by rfl, ?_⟩) ?_ ?_
          rotate_left
          ·intro w'
           go_simp
           with_reducible rfl
          rotate_left
          ·simp only [Act.put, List.setIfInBounds_toArray, List.set_cons_zero, List.set_cons_succ, i64_w, i32_w]
           rfl
          refine take_ (i := 1) (N := some 43) (v := ?_) (a' := ?_) #[true, true, true, false, false, true, false, true, false, false, false, false] rfl rfl (take_ofW HT_.out HW_.out (by kernel_rfl)) (fun _ _ _ h => h) (Or.inl ⟨by rfl, ?_⟩) hHeld ?_ ?_
          rotate_left
          ·rintro w' ⟨s0, s1, s2, s3, s4, s5, s6, s7, s8, s9, s10, s11, s12, s13, s14, s15⟩
           go_simp
           with_reducible rfl
          rotate_left
          ·simp only [Act.put, List.setIfInBounds_toArray, List.set_cons_zero, List.set_cons_succ, i64_w, i32_w]
           rfl
          refine pure_ (i := 3) (N := some 45) (v := ?_) (a' := ?_) #[true, true, true, true, false, true, false, true, false, false, false, false] rfl rfl (any_of HT_.out (by kernel_rfl)) (fun _ _ _ h => h) (Or.inl ⟨by rfl, ?_⟩) ?_ ?_
          rotate_left
          ·intro w'
           go_simp
           with_reducible rfl
          rotate_left
          ·simp only [Act.put, List.setIfInBounds_toArray, List.set_cons_zero, List.set_cons_succ, i64_w, i32_w]
           rfl
          refine take_ (i := 4) (N := some 46) (v := ?_) (a' := ?_) #[true, true, true, true, true, true, false, true, false, false, false, false] rfl rfl (take_ofW HT_.out HW_.out (by kernel_rfl)) (fun _ _ _ h => h) (Or.inl ⟨by rfl, ?_⟩) hHeld ?_ ?_
          rotate_left
          ·rintro w' ⟨s0, s1, s2, s3, s4, s5, s6, s7, s8, s9, s10, s11, s12, s13, s14, s15⟩
           go_simp
           with_reducible rfl
          rotate_left
          ·simp only [Act.put, List.setIfInBounds_toArray, List.set_cons_zero, List.set_cons_succ, i64_w, i32_w]
           rfl
          refine take_ (i := 6) (N := some 48) (v := ?_) (a' := ?_) #[true, true, true, true, true, true, true, true, false, false, false, false] rfl rfl (take_ofW HT_.out HW_.out (by kernel_rfl)) (fun _ _ _ h => h) (Or.inl ⟨by rfl, ?_⟩) hHeld ?_ ?_
          rotate_left
          ·rintro w' ⟨s0, s1, s2, s3, s4, s5, s6, s7, s8, s9, s10, s11, s12, s13, s14, s15⟩
           go_simp
           with_reducible rfl
          rotate_left
          ·simp only [Act.put, List.setIfInBounds_toArray, List.set_cons_zero, List.set_cons_succ, i64_w, i32_w]
           rfl
          refine pure_ (i := 8) (N := some 50) (v := ?_) (a' := ?_) #[true, true, true, true, true, true, true, true, true, false, false, false] rfl rfl (any_of HT_.out (by kernel_rfl)) (fun _ _ _ h => h) (Or.inl ⟨by rfl, ?_⟩) ?_ ?_
          rotate_left
          ·intro w'
           go_simp
           with_reducible rfl
          rotate_left
          ·simp only [Act.put, List.setIfInBounds_toArray, List.set_cons_zero, List.set_cons_succ, i64_w, i32_w]
           rfl
          refine take_ (i := 9) (N := some 51) (v := ?_) (a' := ?_) #[true, true, true, true, true, true, true, true, true, true, false, false] rfl rfl (take_ofW HT_.out HW_.out (by kernel_rfl)) (fun _ _ _ h => h) (Or.inl ⟨by rfl, ?_⟩) hHeld ?_ ?_
          rotate_left
          ·rintro w' ⟨s0, s1, s2, s3, s4, s5, s6, s7, s8, s9, s10, s11, s12, s13, s14, s15⟩
           go_simp
           with_reducible rfl
          rotate_left
          ·simp only [Act.put, List.setIfInBounds_toArray, List.set_cons_zero, List.set_cons_succ, i64_w, i32_w]
           rfl
          refine one_ (i := 10) (N := some 52) #[true, true, true, true, true, true, true, true, true, true, true, false] rfl rfl (one_of HT_.out (by kernel_rfl)) (by decide) (fun K hK => ?_)
          refine goes_ Try.func20 (by kernel_rfl) rfl #[.agg #[.int .i64 ((rd_T26 l0_3 x5_2).f0), .int .u64 ((rd_T26 l0_3 x5_2).f1), .slice A104_2 ((rd_T26 l0_3 x5_2).f2).length c104_2, .slice A104_3 ((rd_T26 l0_3 x5_2).f3).length c104_3], .agg #[.int .i64 ((rd_T26 l1_3 x5_2).f0), .int .u64 ((rd_T26 l1_3 x5_2).f1), .slice A105_2 ((rd_T26 l1_3 x5_2).f2).length c105_2, .slice A105_3 ((rd_T26 l1_3 x5_2).f3).length c105_3]] (by rfl) rfl rfl (by (try simp only [List.map_toArray, List.map_cons, List.map_nil]); first | done | rfl | (simp only [List.length_drop, List.length_take]; rfl)) ?_
          with_reducible refine (ih k2 (by have := HJ2.out; have := HK2.out; omega) ((rd_T26 l0_3 x5_2).f0) ((rd_T26 l0_3 x5_2).f1) _ _ ((rd_T26 l0_3 x5_2).f2) _ _ ((rd_T26 l0_3 x5_2).f3) ((rd_T26 l1_3 x5_2).f0) ((rd_T26 l1_3 x5_2).f1) _ _ ((rd_T26 l1_3 x5_2).f2) _ _ ((rd_T26 l1_3 x5_2).f3) false _ ?side1 ?side2 ?side3 ?side4 ?side5 ?side6 ?side7 ?side8 A26.out).mono ?_
          (case side1 => repeat (first | exact (Kd.C_below HR104_2.out HB.out) | (with_reducible refine Kd.C_alloc ?_ _) | (with_reducible refine Kd.C_drewN ?_ _) | (with_reducible refine Kd.C_drew ?_)))
          (case side2 => exact HC104_2.out)
          (case side3 => repeat (first | exact (Kd.C_below HR104_3.out HB.out) | (with_reducible refine Kd.C_alloc ?_ _) | (with_reducible refine Kd.C_drewN ?_ _) | (with_reducible refine Kd.C_drew ?_)))
          (case side4 => exact HC104_3.out)
          (case side5 => repeat (first | exact (Kd.C_below HR105_2.out HB.out) | (with_reducible refine Kd.C_alloc ?_ _) | (with_reducible refine Kd.C_drewN ?_ _) | (with_reducible refine Kd.C_drew ?_)))
          (case side6 => exact HC105_2.out)
          (case side7 => repeat (first | exact (Kd.C_below HR105_3.out HB.out) | (with_reducible refine Kd.C_alloc ?_ _) | (with_reducible refine Kd.C_drewN ?_ _) | (with_reducible refine Kd.C_drew ?_)))
          (case side8 => exact HC105_3.out)
          rintro e w35 ⟨rfl, hb⟩
          refine ⟨_, rfl, ?_⟩
          have n0_ := Aside0.mk (blk_below (g := gb101) (o := .cells #[.int .i64 a0_0, .int .u64 a0_1, .slice A0_2 l0_2.length c0_2, .slice (some ad104) l0_3.length c0_3] 26 (0, 0)) (by (with_reducible repeat (first | refine blk_drewN ?_ _ | refine blk_drew ?_ | refine blk_alloc ?_ _)); exact BK101.out) hb)
          have n1_ := Aside0.mk (blk_below (g := gb102) (o := .cells #[.int .i64 a1_0, .int .u64 a1_1, .slice A1_2 l1_2.length c1_2, .slice (some ad105) l1_3.length c1_3] 26 (0, 0)) (by (with_reducible repeat (first | refine blk_drewN ?_ _ | refine blk_drew ?_ | refine blk_alloc ?_ _)); exact BK102.out) hb)
          have n2_ := Aside0.mk (below_step (by repeat (first | (with_reducible first | exact HB.out | apply below_alloc | apply pw_below_drewN | apply below_drew1 | refine below_set ?_ GE101.out | refine below_set ?_ GE102.out) | exact HB.out)) hb)
          clear BK101
          clear BK102
          clear HB
          have BK101 := n0_
          have BK102 := n1_
          have HB := n2_
          clear n0_ n1_ n2_
          (try clear hb)
          (try clear hb2)
          (try clear hk)
          (try clear hi)
          refine hK.out _ _ ⟨(blk_cell BK101.out 0).trans rfl, (blk_cell BK101.out 1).trans rfl, (blk_cell BK101.out 2).trans rfl, (blk_cell BK101.out 3).trans rfl, (blk_cell BK102.out 0).trans rfl, (blk_cell BK102.out 1).trans rfl, (blk_cell BK102.out 2).trans rfl, (blk_cell BK102.out 3).trans rfl, ((HB.out.cell (World.block_lt_of_cell? w _ hw104_0)).trans hw104_0), ((HB.out.cell (World.block_lt_of_cell? w _ hw104_1)).trans hw104_1), ((HB.out.cell (World.block_lt_of_cell? w _ hw104_2)).trans hw104_2), ((HB.out.cell (World.block_lt_of_cell? w _ hw104_3)).trans hw104_3), ((HB.out.cell (World.block_lt_of_cell? w _ hw105_0)).trans hw105_0), ((HB.out.cell (World.block_lt_of_cell? w _ hw105_1)).trans hw105_1), ((HB.out.cell (World.block_lt_of_cell? w _ hw105_2)).trans hw105_2), ((HB.out.cell (World.block_lt_of_cell? w _ hw105_3)).trans hw105_3)⟩ (fun hHeld => ?_)
          clear hK K
          refine norm_ (a' := ?_) ?_ ?_
          rotate_left
          ·show Act.put _ (some 52) _ = _
           simp only [Act.put, List.setIfInBounds_toArray, List.set_cons_zero, List.set_cons_succ, i64_w, i32_w]
           rfl
          refine pure_ (i := 11) (N := some 53) (v := ?_) (a' := ?_) #[true, true, true, true, true, true, true, true, true, true, true, true] rfl rfl (any_of HT_.out (by kernel_rfl)) (fun _ _ _ h => h) (Or.inl ⟨by rfl, ?_⟩) ?_ ?_
          rotate_left
          ·intro w'
           go_simp
           with_reducible rfl
          rotate_left
          ·simp only [Act.put, List.setIfInBounds_toArray, List.set_cons_zero, List.set_cons_succ, i64_w, i32_w]
           rfl
          refine done_ (done_of HT_.out (by kernel_rfl)) ?_
          try go_wp2
          go_ret
          exact ⟨by first | rfl | (simp [errW_none, errW_some] <;> rfl) | (simp [*, errW_none, errW_some] <;> rfl), by repeat (first | (with_reducible first | exact HB.out | apply below_alloc | apply pw_below_drewN | apply below_drew1 | refine below_set ?_ GE101.out | refine below_set ?_ GE102.out) | exact HB.out)⟩
        ·rw [if_neg c25] at H
         exact absurd H (by simp)
       ·rw [if_neg c24] at H
        exact absurd H (by simp)
      ·rw [if_neg c23] at H
       have c23b0 : decide (x5_2 < (l0_3.length : Int)) = false := decide_eq_false c23
       clear c23
       obtain rfl := Option.some.inj H
       have hnb36 := NB101_102.out
       have hnc36 := NB102_101.out
       have hcz37_0 : wr.cell? ⟨gb101, 0, none⟩ = some (.int .i64 a0_0) := (blk_cell BK101.out 0).trans rfl
       have hcz37_1 : wr.cell? ⟨gb101, 1, none⟩ = some (.int .u64 a0_1) := (blk_cell BK101.out 1).trans rfl
       have hcz37_2 : wr.cell? ⟨gb101, 2, none⟩ = some (.slice A0_2 l0_2.length c0_2) := (blk_cell BK101.out 2).trans rfl
       have hcz37_3 : wr.cell? ⟨gb101, 3, none⟩ = some (.slice A0_3 l0_3.length c0_3) := (blk_cell BK101.out 3).trans rfl
       have hfz37_0 := blk_frozen BK101.out 0
       have hfz37_1 := blk_frozen BK101.out 1
       have hfz37_2 := blk_frozen BK101.out 2
       have hfz37_3 := blk_frozen BK101.out 3
       go_wp2
       go_ret
       exact ⟨by first | rfl | (simp [errW_none, errW_some] <;> rfl) | (simp [*, errW_none, errW_some] <;> rfl), by repeat (first | (with_reducible first | exact HB.out | apply below_alloc | apply pw_below_drewN | apply below_drew1 | refine below_set ?_ GE101.out | refine below_set ?_ GE102.out) | exact HB.out)⟩

end Go.Proofs.Ytgohmganimamcaa.PZ
-- printed for this claim by a program (pall.sh)
-- mended by fixpz.py
namespace Go.Proofs.Ytgohmganimamcaa.PZ
open Go.RowKit Go.Proofs.YtgohmganimamcaaW.PrintWords Go.Proofs.YtgohmganimamcaaW.PrintLast Go.Proofs.YtgohmganimamcaaW.PrintMore
attribute [local go_sem] max2_int min2_int max_two min_two max_three min_three max_four min_four   -- for this text's walks alone
set_option linter.unusedVariables false
set_option linter.unusedSimpArgs false

/-! ### hanaperref05_SameAll: function 27 -/
def hanaperref05_SameAll.l0 : Nat → List (S26) → List (S26) → Int → Option (Bool)
 | 0, _, _, _ => none
 | k + 1, x0, x1, x5 => if x5 < (x0.length : Int) then (if 0 ≤ x5 then (if x5 < (x1.length : Int) then ((hanaperref05_Same.f k ((rd_T26 x0 x5).f0) ((rd_T26 x0 x5).f1) ((rd_T26 x0 x5).f2) ((rd_T26 x0 x5).f3) ((rd_T26 x1 x5).f0) ((rd_T26 x1 x5).f1) ((rd_T26 x1 x5).f2) ((rd_T26 x1 x5).f3)).bind fun t103 => (if t103 = true then (hanaperref05_SameAll.l0 k x0 x1 (wrap64 (x5 + 1))) else (some false))) else (none)) else (none)) else (some true)
def hanaperref05_SameAll.f (k : Nat) (l0 : List (S26)) (l1 : List (S26)) : Option (Bool) := if (l0.length : Int) = (l1.length : Int) then (hanaperref05_SameAll.l0 k l0 l1 0) else (some false)
def hanaperref05_SameAll.T6 : Bool × List (List Nat × List Nat) := (true, [([], []), ([], []), ([0, 1], [0, 1]), ([2], [2]), ([], []), ([], []), ([4, 5], [4, 5]), ([6], [6]), ([3, 7], [3, 7]), ([8], [8])])
def hanaperref05_SameAll.B6 : List Nat := [0, 0, 3, 7, 0, 0, 48, 112, 255, 511]
theorem hanaperref05_SameAll.tab6 : rtab .any (opsOf Try.f27 6) = hanaperref05_SameAll.T6 := by kernel_rfl
theorem hanaperref05_SameAll.bits6 : waitsOk hanaperref05_SameAll.T6.2 hanaperref05_SameAll.B6 = true := by kernel_rfl
set_option maxHeartbeats 8000000 in
set_option maxRecDepth 100000 in
theorem hanaperref05_SameAll.calls (k : Nat) (A0 : Option Addr) (c0 : Nat) (l0 : List (S26)) (A1 : Option Addr) (c1 : Nat) (l1 : List (S26)) (r : Bool) (w : World) (hr0 : Kd.C k26 w A0 l0.length l0) (hc0 : l0.length ≤ c0) (hr1 : Kd.C k26 w A1 l1.length l1) (hc1 : l1.length ≤ c1) (h : hanaperref05_SameAll.f k l0 l1 = some r) :
  Calls Try.prog 27 #[.slice A0 l0.length c0, .slice A1 l1.length c1] w fun e w' => e = .returned (.bool r) ∧ Below w.heap.size w w' := by
 have hu26 := Try.underlying26
 have HR0 := Aside0.mk hr0
 have HC0 := Aside0.mk hc0
 clear hr0 hc0
 have HR1 := Aside0.mk hr1
 have HC1 := Aside0.mk hc1
 clear hr1 hc1
 have HB := Aside0.mk (Below.refl w.heap.size w)
 have H : (if (l0.length : Int) = (l1.length : Int) then (hanaperref05_SameAll.l0 k l0 l1 0) else (some false)) = some r := h
 clear h
 by_cases c3 : (l0.length : Int) = (l1.length : Int)
 ·rw [if_pos c3] at H
  have c3b0 : ((l0.length : Int) == (l1.length : Int)) = true := beq_iff_eq.mpr c3
  have c3b1 : ((l0.length : Int) != (l1.length : Int)) = false := bne_eq_false_iff_eq.mpr c3
  have c3b2 : (l0.length == l1.length) = true := by first | simpa using c3 | (simp at c3 ⊢; omega)
  clear c3
  have H' := Aside0.mk H
  clear H
  go_enter Try.func27, Try.ntmps27
  go_wp2
  go_loopg [5] k (fun kq v5 w' => ∃ (x5_1 : Int), v5 = .int .i64 x5_1 ∧ Aside0 (hanaperref05_SameAll.l0 kq l0 l1 x5_1 = some r) ∧ Aside0 (kq ≤ k) ∧ Aside0 (Below w.heap.size w w'))
  case atStart => exact ⟨(0), (by first | rfl | (simp; done) | (simp [*]; done)), H', ⟨Nat.le_refl _⟩, ⟨by repeat (first | (with_reducible first | exact HB.out | apply below_alloc | apply pw_below_drewN | apply below_drew1) | exact HB.out)⟩⟩
  case round =>
   clear H'
   (try clear c1);(try clear c2);(try clear p2);(try clear c3);(try clear c3b0);(try clear c3b1);(try clear c3b2)
   obtain ⟨x5_1, rfl, HA, HK1, HB⟩ := hrel
   cases gk with
   | zero => exact absurd HA.out (by simp [hanaperref05_SameAll.l0])
   | succ k1 =>
    have H := HA.out
    clear HA
    simp only [hanaperref05_SameAll.l0] at H
    by_cases c4 : x5_1 < (l0.length : Int)
    ·rw [if_pos c4] at H
     have c4b0 : decide (x5_1 < (l0.length : Int)) = true := decide_eq_true c4
     clear c4
     by_cases c5 : 0 ≤ x5_1
     ·rw [if_pos c5] at H
      have c5b0 : decide (0 ≤ x5_1) = true := decide_eq_true c5
      clear c5
      by_cases c6 : x5_1 < (l1.length : Int)
      ·rw [if_pos c6] at H
       have c6b0 : decide (x5_1 < (l1.length : Int)) = true := decide_eq_true c6
       clear c6
       replace H := Option.bind_eq_some_iff.mp H
       obtain ⟨t103, A70, H⟩ := H
       replace H : (if t103 = true then (hanaperref05_SameAll.l0 k1 l0 l1 (wrap64 (x5_1 + 1))) else (some false)) = some r := H
       have A7 := Aside0.mk A70
       clear A70
       by_cases c8 : t103 = true
       ·subst c8
        have H1 : (hanaperref05_SameAll.l0 k1 l0 l1 (wrap64 (x5_1 + 1))) = some r := by rw [if_pos rfl] at H; exact H
        clear H
        have H := H1
        clear H1
        have H' := Aside0.mk H
        clear H
        try go_wp2
        have n0_ := Aside0.mk (below_drew1 HB.out)
        clear HB
        have HB := n0_
        clear n0_
        have p101 : 0 ≤ (x5_1 : Int) := of_decide_eq_true (by first | (with_reducible assumption) | assumption)
        have q101 : x5_1 < (l0.length : Int) := of_decide_eq_true (by first | (with_reducible assumption) | assumption)
        obtain ⟨ad101, A101_2, c101_2, A101_3, c101_3, e101, hx101_0, hx101_1, hx101_2, hx101_3, hl101_2, hi101_2, hl101_3, hi101_3⟩ := at_T26 HR0.out x5_1 p101 q101
        have hw101_3 := hx101_3
        have hw101_2 := hx101_2
        have hw101_1 := hx101_1
        have hw101_0 := hx101_0
        cases e101
        replace hx101_0 := (HB.out.cell (World.block_lt_of_cell? w _ hx101_0)).trans hx101_0
        replace hx101_1 := (HB.out.cell (World.block_lt_of_cell? w _ hx101_1)).trans hx101_1
        replace hx101_2 := (HB.out.cell (World.block_lt_of_cell? w _ hx101_2)).trans hx101_2
        replace hx101_3 := (HB.out.cell (World.block_lt_of_cell? w _ hx101_3)).trans hx101_3
        have HR101_2 := Aside0.mk hi101_2
        have HC101_2 := Aside0.mk hl101_2
        clear hi101_2 hl101_2
        have HR101_3 := Aside0.mk hi101_3
        have HC101_3 := Aside0.mk hl101_3
        clear hi101_3 hl101_3
        replace p101 := eq_true p101
        replace q101 := eq_true q101
        have p102 : 0 ≤ (x5_1 : Int) := of_decide_eq_true (by first | (with_reducible assumption) | assumption)
        have q102 : x5_1 < (l1.length : Int) := of_decide_eq_true (by first | (with_reducible assumption) | assumption)
        obtain ⟨ad102, A102_2, c102_2, A102_3, c102_3, e102, hx102_0, hx102_1, hx102_2, hx102_3, hl102_2, hi102_2, hl102_3, hi102_3⟩ := at_T26 HR1.out x5_1 p102 q102
        have hw102_3 := hx102_3
        have hw102_2 := hx102_2
        have hw102_1 := hx102_1
        have hw102_0 := hx102_0
        cases e102
        replace hx102_0 := (HB.out.cell (World.block_lt_of_cell? w _ hx102_0)).trans hx102_0
        replace hx102_1 := (HB.out.cell (World.block_lt_of_cell? w _ hx102_1)).trans hx102_1
        replace hx102_2 := (HB.out.cell (World.block_lt_of_cell? w _ hx102_2)).trans hx102_2
        replace hx102_3 := (HB.out.cell (World.block_lt_of_cell? w _ hx102_3)).trans hx102_3
        have HR102_2 := Aside0.mk hi102_2
        have HC102_2 := Aside0.mk hl102_2
        clear hi102_2 hl102_2
        have HR102_3 := Aside0.mk hi102_3
        have HC102_3 := Aside0.mk hl102_3
        clear hi102_3 hl102_3
        replace p102 := eq_true p102
        replace q102 := eq_true q102
        refine start_ (n := 10) (S := fun w' => w'.cell? (ad101.add ((x5_1).toNat * 4)) = some (.int .i64 ((rd_T26 l0 x5_1).f0)) ∧ w'.cell? ⟨(ad101.add ((x5_1).toNat * 4)).block, (ad101.add ((x5_1).toNat * 4)).off + 1, none⟩ = some (.int .u64 ((rd_T26 l0 x5_1).f1)) ∧ w'.cell? ⟨(ad101.add ((x5_1).toNat * 4)).block, (ad101.add ((x5_1).toNat * 4)).off + 2, none⟩ = some (.slice A101_2 ((rd_T26 l0 x5_1).f2).length c101_2) ∧ w'.cell? ⟨(ad101.add ((x5_1).toNat * 4)).block, (ad101.add ((x5_1).toNat * 4)).off + 3, none⟩ = some (.slice A101_3 ((rd_T26 l0 x5_1).f3).length c101_3) ∧ w'.cell? (ad102.add ((x5_1).toNat * 4)) = some (.int .i64 ((rd_T26 l1 x5_1).f0)) ∧ w'.cell? ⟨(ad102.add ((x5_1).toNat * 4)).block, (ad102.add ((x5_1).toNat * 4)).off + 1, none⟩ = some (.int .u64 ((rd_T26 l1 x5_1).f1)) ∧ w'.cell? ⟨(ad102.add ((x5_1).toNat * 4)).block, (ad102.add ((x5_1).toNat * 4)).off + 2, none⟩ = some (.slice A102_2 ((rd_T26 l1 x5_1).f2).length c102_2) ∧ w'.cell? ⟨(ad102.add ((x5_1).toNat * 4)).block, (ad102.add ((x5_1).toNat * 4)).off + 3, none⟩ = some (.slice A102_3 ((rd_T26 l1 x5_1).f3).length c102_3)) (ds := []) #[false, false, false, false, false, false, false, false, false, false] (by kernel_rfl) rfl rfl ⟨((HB.out.cell (World.block_lt_of_cell? w _ hw101_0)).trans hw101_0), ((HB.out.cell (World.block_lt_of_cell? w _ hw101_1)).trans hw101_1), ((HB.out.cell (World.block_lt_of_cell? w _ hw101_2)).trans hw101_2), ((HB.out.cell (World.block_lt_of_cell? w _ hw101_3)).trans hw101_3), ((HB.out.cell (World.block_lt_of_cell? w _ hw102_0)).trans hw102_0), ((HB.out.cell (World.block_lt_of_cell? w _ hw102_1)).trans hw102_1), ((HB.out.cell (World.block_lt_of_cell? w _ hw102_2)).trans hw102_2), ((HB.out.cell (World.block_lt_of_cell? w _ hw102_3)).trans hw102_3)⟩ (fun hHeld => ?_); refine with_tabW hanaperref05_SameAll.tab6 hanaperref05_SameAll.bits6 (fun HT_ HW_ => ?_)
        generalize wr.drew = w9 at HB HR101_2 HR101_3 HR102_2 HR102_3 hx101_0 hx101_1 hx101_2 hx101_3 hx102_0 hx102_1 hx102_2 hx102_3 hHeld ⊢
        refine pure_ (i := 0) (N := some 17) (v := ?_) (a' := ?_) #[true, false, false, false, false, false, false, false, false, false] rfl rfl (any_of HT_.out (by kernel_rfl)) (fun _ _ _ h => h) (Or.inl ⟨by rfl, ?_⟩) ?_ ?_
        rotate_left
        ·intro w'
         go_simp
         with_reducible rfl
        rotate_left
        ·simp only [Act.put, List.setIfInBounds_toArray, List.set_cons_zero, List.set_cons_succ, i64_w, i32_w]
         rfl
        refine pure_ (i := 1) (N := some 18) (v := ?_) (a' := ?_) #[true, true, false, false, false, false, false, false, false, false] rfl rfl (any_of HT_.out (by kernel_rfl)) (fun _ _ _ h => h) (Or.inl ⟨by rfl, ?_⟩) ?_ ?_
        rotate_left
        ·intro w'
         go_simp
         with_reducible rfl
        rotate_left
        ·simp only [Act.put, List.setIfInBounds_toArray, List.set_cons_zero, List.set_cons_succ, i64_w, i32_w]
         rfl
        refine pure_ (i := 2) (N := some 19) (v := ?_) (a' := ?_) #[true, true, true, false, false, false, false, false, false, false] rfl rfl (any_of HT_.out (by kernel_rfl)) (fun _ _ _ h => h) (Or.inl ⟨by rfl, ?_⟩) ?_ ?_
        rotate_left
        ·intro w'
         go_simp
         with_reducible rfl
        rotate_left
        ·simp only [Act.put, List.setIfInBounds_toArray, List.set_cons_zero, List.set_cons_succ, i64_w, i32_w]
         rfl
        refine pure_ (i := 4) (N := some 21) (v := ?_) (a' := ?_) #[true, true, true, false, true, false, false, false, false, false] rfl rfl (any_of HT_.out (by kernel_rfl)) (fun _ _ _ h => h) (Or.inl ⟨by rfl, ?_⟩) ?_ ?_
        rotate_left
        ·intro w'
         go_simp
         with_reducible rfl
        rotate_left
        ·simp only [Act.put, List.setIfInBounds_toArray, List.set_cons_zero, List.set_cons_succ, i64_w, i32_w]
         rfl
        refine pure_ (i := 5) (N := some 22) (v := ?_) (a' := ?_) #[true, true, true, false, true, true, false, false, false, false] rfl rfl (any_of HT_.out (by kernel_rfl)) (fun _ _ _ h => h) (Or.inl ⟨by rfl, ?_⟩) ?_ ?_
        rotate_left
        ·intro w'
         go_simp
         with_reducible rfl
        rotate_left
        ·simp only [Act.put, List.setIfInBounds_toArray, List.set_cons_zero, List.set_cons_succ, i64_w, i32_w]
         rfl
        refine pure_ (i := 6) (N := some 23) (v := ?_) (a' := ?_) #[true, true, true, false, true, true, true, false, false, false] rfl rfl (any_of HT_.out (by kernel_rfl)) (fun _ _ _ h => h) (Or.inl ⟨by rfl, ?_⟩) ?_ ?_
        rotate_left
        ·intro w'
         go_simp
         with_reducible rfl
        rotate_left
        ·simp only [Act.put, List.setIfInBounds_toArray, List.set_cons_zero, List.set_cons_succ, i64_w, i32_w]
         rfl
        refine take_ (i := 3) (N := some 20) (v := ?_) (a' := ?_) #[true, true, true, true, true, true, true, false, false, false] rfl rfl (take_ofW HT_.out HW_.out (by kernel_rfl)) (fun _ _ _ h => h) (Or.inl ⟨by rfl, ?_⟩) hHeld ?_ ?_
        rotate_left
        ·rintro w' ⟨s0, s1, s2, s3, s4, s5, s6, s7⟩
         go_simp
         with_reducible rfl
        rotate_left
        ·simp only [Act.put, List.setIfInBounds_toArray, List.set_cons_zero, List.set_cons_succ, i64_w, i32_w]
         rfl
        refine take_ (i := 7) (N := some 24) (v := ?_) (a' := ?_) #[true, true, true, true, true, true, true, true, false, false] rfl rfl (take_ofW HT_.out HW_.out (by kernel_rfl)) (fun _ _ _ h => h) (Or.inl ⟨by rfl, ?_⟩) hHeld ?_ ?_
        rotate_left
        ·rintro w' ⟨s0, s1, s2, s3, s4, s5, s6, s7⟩
         go_simp
         with_reducible rfl
        rotate_left
        ·simp only [Act.put, List.setIfInBounds_toArray, List.set_cons_zero, List.set_cons_succ, i64_w, i32_w]
         rfl
        refine one_ (i := 8) (N := some 25) #[true, true, true, true, true, true, true, true, true, false] rfl rfl (one_of HT_.out (by kernel_rfl)) (by decide) (fun K hK => ?_)
        refine goes_ Try.func20 (by kernel_rfl) rfl #[.agg #[.int .i64 ((rd_T26 l0 x5_1).f0), .int .u64 ((rd_T26 l0 x5_1).f1), .slice A101_2 ((rd_T26 l0 x5_1).f2).length c101_2, .slice A101_3 ((rd_T26 l0 x5_1).f3).length c101_3], .agg #[.int .i64 ((rd_T26 l1 x5_1).f0), .int .u64 ((rd_T26 l1 x5_1).f1), .slice A102_2 ((rd_T26 l1 x5_1).f2).length c102_2, .slice A102_3 ((rd_T26 l1 x5_1).f3).length c102_3]] (by rfl) rfl rfl (by (try simp only [List.map_toArray, List.map_cons, List.map_nil]); first | done | rfl | (simp only [List.length_drop, List.length_take]; rfl)) ?_
        with_reducible refine (hanaperref05_Same.calls k1 ((rd_T26 l0 x5_1).f0) ((rd_T26 l0 x5_1).f1) _ _ ((rd_T26 l0 x5_1).f2) _ _ ((rd_T26 l0 x5_1).f3) ((rd_T26 l1 x5_1).f0) ((rd_T26 l1 x5_1).f1) _ _ ((rd_T26 l1 x5_1).f2) _ _ ((rd_T26 l1 x5_1).f3) true _ ?side1 ?side2 ?side3 ?side4 ?side5 ?side6 ?side7 ?side8 A7.out).mono ?_
        (case side1 => repeat (first | exact (Kd.C_below HR101_2.out HB.out) | (with_reducible refine Kd.C_alloc ?_ _) | (with_reducible refine Kd.C_drewN ?_ _) | (with_reducible refine Kd.C_drew ?_)))
        (case side2 => exact HC101_2.out)
        (case side3 => repeat (first | exact (Kd.C_below HR101_3.out HB.out) | (with_reducible refine Kd.C_alloc ?_ _) | (with_reducible refine Kd.C_drewN ?_ _) | (with_reducible refine Kd.C_drew ?_)))
        (case side4 => exact HC101_3.out)
        (case side5 => repeat (first | exact (Kd.C_below HR102_2.out HB.out) | (with_reducible refine Kd.C_alloc ?_ _) | (with_reducible refine Kd.C_drewN ?_ _) | (with_reducible refine Kd.C_drew ?_)))
        (case side6 => exact HC102_2.out)
        (case side7 => repeat (first | exact (Kd.C_below HR102_3.out HB.out) | (with_reducible refine Kd.C_alloc ?_ _) | (with_reducible refine Kd.C_drewN ?_ _) | (with_reducible refine Kd.C_drew ?_)))
        (case side8 => exact HC102_3.out)
        rintro e w10 ⟨rfl, hb⟩
        refine ⟨_, rfl, ?_⟩
        have n0_ := Aside0.mk (below_step (by repeat (first | (with_reducible first | exact HB.out | apply below_alloc | apply pw_below_drewN | apply below_drew1) | exact HB.out)) hb)
        clear HB
        have HB := n0_
        clear n0_
        (try clear hb)
        (try clear hb2)
        (try clear hk)
        (try clear hi)
        refine hK.out _ _ ⟨((HB.out.cell (World.block_lt_of_cell? w _ hw101_0)).trans hw101_0), ((HB.out.cell (World.block_lt_of_cell? w _ hw101_1)).trans hw101_1), ((HB.out.cell (World.block_lt_of_cell? w _ hw101_2)).trans hw101_2), ((HB.out.cell (World.block_lt_of_cell? w _ hw101_3)).trans hw101_3), ((HB.out.cell (World.block_lt_of_cell? w _ hw102_0)).trans hw102_0), ((HB.out.cell (World.block_lt_of_cell? w _ hw102_1)).trans hw102_1), ((HB.out.cell (World.block_lt_of_cell? w _ hw102_2)).trans hw102_2), ((HB.out.cell (World.block_lt_of_cell? w _ hw102_3)).trans hw102_3)⟩ (fun hHeld => ?_)
        clear hK K
        refine norm_ (a' := ?_) ?_ ?_
        rotate_left
        ·show Act.put _ (some 25) _ = _
         simp only [Act.put, List.setIfInBounds_toArray, List.set_cons_zero, List.set_cons_succ, i64_w, i32_w]
         rfl
        refine pure_ (i := 9) (N := some 26) (v := ?_) (a' := ?_) #[true, true, true, true, true, true, true, true, true, true] rfl rfl (any_of HT_.out (by kernel_rfl)) (fun _ _ _ h => h) (Or.inl ⟨by rfl, ?_⟩) ?_ ?_
        rotate_left
        ·intro w'
         go_simp
         with_reducible rfl
        rotate_left
        ·simp only [Act.put, List.setIfInBounds_toArray, List.set_cons_zero, List.set_cons_succ, i64_w, i32_w]
         rfl
        refine done_ (done_of HT_.out (by kernel_rfl)) ?_
        try go_wp2
        go_roundg k1
        case measure => have := HK1.out; omega
        case rel => exact ⟨(wrap64 (x5_1 + 1)), (by first | rfl | (simp; done) | (simp [*]; done)), H', ⟨by have := HK1.out; omega⟩, ⟨by repeat (first | (with_reducible first | exact HB.out | apply below_alloc | apply pw_below_drewN | apply below_drew1) | exact HB.out)⟩⟩
       ·replace c8 := Bool.eq_false_iff.mpr c8
        subst c8
        have H1 : (some false) = some r := by rw [if_neg (show ¬ (false = true) by decide)] at H; exact H
        clear H
        have H := H1
        clear H1
        obtain rfl := Option.some.inj H
        try go_wp2
        have n0_ := Aside0.mk (below_drew1 HB.out)
        clear HB
        have HB := n0_
        clear n0_
        have p101 : 0 ≤ (x5_1 : Int) := of_decide_eq_true (by first | (with_reducible assumption) | assumption)
        have q101 : x5_1 < (l0.length : Int) := of_decide_eq_true (by first | (with_reducible assumption) | assumption)
        obtain ⟨ad101, A101_2, c101_2, A101_3, c101_3, e101, hx101_0, hx101_1, hx101_2, hx101_3, hl101_2, hi101_2, hl101_3, hi101_3⟩ := at_T26 HR0.out x5_1 p101 q101
        have hw101_3 := hx101_3
        have hw101_2 := hx101_2
        have hw101_1 := hx101_1
        have hw101_0 := hx101_0
        cases e101
        replace hx101_0 := (HB.out.cell (World.block_lt_of_cell? w _ hx101_0)).trans hx101_0
        replace hx101_1 := (HB.out.cell (World.block_lt_of_cell? w _ hx101_1)).trans hx101_1
        replace hx101_2 := (HB.out.cell (World.block_lt_of_cell? w _ hx101_2)).trans hx101_2
        replace hx101_3 := (HB.out.cell (World.block_lt_of_cell? w _ hx101_3)).trans hx101_3
        have HR101_2 := Aside0.mk hi101_2
        have HC101_2 := Aside0.mk hl101_2
        clear hi101_2 hl101_2
        have HR101_3 := Aside0.mk hi101_3
        have HC101_3 := Aside0.mk hl101_3
        clear hi101_3 hl101_3
        replace p101 := eq_true p101
        replace q101 := eq_true q101
        have p102 : 0 ≤ (x5_1 : Int) := of_decide_eq_true (by first | (with_reducible assumption) | assumption)
        have q102 : x5_1 < (l1.length : Int) := of_decide_eq_true (by first | (with_reducible assumption) | assumption)
        obtain ⟨ad102, A102_2, c102_2, A102_3, c102_3, e102, hx102_0, hx102_1, hx102_2, hx102_3, hl102_2, hi102_2, hl102_3, hi102_3⟩ := at_T26 HR1.out x5_1 p102 q102
        have hw102_3 := hx102_3
        have hw102_2 := hx102_2
        have hw102_1 := hx102_1
        have hw102_0 := hx102_0
        cases e102
        replace hx102_0 := (HB.out.cell (World.block_lt_of_cell? w _ hx102_0)).trans hx102_0
        replace hx102_1 := (HB.out.cell (World.block_lt_of_cell? w _ hx102_1)).trans hx102_1
        replace hx102_2 := (HB.out.cell (World.block_lt_of_cell? w _ hx102_2)).trans hx102_2
        replace hx102_3 := (HB.out.cell (World.block_lt_of_cell? w _ hx102_3)).trans hx102_3
        have HR102_2 := Aside0.mk hi102_2
        have HC102_2 := Aside0.mk hl102_2
        clear hi102_2 hl102_2
        have HR102_3 := Aside0.mk hi102_3
        have HC102_3 := Aside0.mk hl102_3
        clear hi102_3 hl102_3
        replace p102 := eq_true p102
        replace q102 := eq_true q102
        refine start_ (n := 10) (S := fun w' => w'.cell? (ad101.add ((x5_1).toNat * 4)) = some (.int .i64 ((rd_T26 l0 x5_1).f0)) ∧ w'.cell? ⟨(ad101.add ((x5_1).toNat * 4)).block, (ad101.add ((x5_1).toNat * 4)).off + 1, none⟩ = some (.int .u64 ((rd_T26 l0 x5_1).f1)) ∧ w'.cell? ⟨(ad101.add ((x5_1).toNat * 4)).block, (ad101.add ((x5_1).toNat * 4)).off + 2, none⟩ = some (.slice A101_2 ((rd_T26 l0 x5_1).f2).length c101_2) ∧ w'.cell? ⟨(ad101.add ((x5_1).toNat * 4)).block, (ad101.add ((x5_1).toNat * 4)).off + 3, none⟩ = some (.slice A101_3 ((rd_T26 l0 x5_1).f3).length c101_3) ∧ w'.cell? (ad102.add ((x5_1).toNat * 4)) = some (.int .i64 ((rd_T26 l1 x5_1).f0)) ∧ w'.cell? ⟨(ad102.add ((x5_1).toNat * 4)).block, (ad102.add ((x5_1).toNat * 4)).off + 1, none⟩ = some (.int .u64 ((rd_T26 l1 x5_1).f1)) ∧ w'.cell? ⟨(ad102.add ((x5_1).toNat * 4)).block, (ad102.add ((x5_1).toNat * 4)).off + 2, none⟩ = some (.slice A102_2 ((rd_T26 l1 x5_1).f2).length c102_2) ∧ w'.cell? ⟨(ad102.add ((x5_1).toNat * 4)).block, (ad102.add ((x5_1).toNat * 4)).off + 3, none⟩ = some (.slice A102_3 ((rd_T26 l1 x5_1).f3).length c102_3)) (ds := []) #[false, false, false, false, false, false, false, false, false, false] (by kernel_rfl) rfl rfl ⟨((HB.out.cell (World.block_lt_of_cell? w _ hw101_0)).trans hw101_0), ((HB.out.cell (World.block_lt_of_cell? w _ hw101_1)).trans hw101_1), ((HB.out.cell (World.block_lt_of_cell? w _ hw101_2)).trans hw101_2), ((HB.out.cell (World.block_lt_of_cell? w _ hw101_3)).trans hw101_3), ((HB.out.cell (World.block_lt_of_cell? w _ hw102_0)).trans hw102_0), ((HB.out.cell (World.block_lt_of_cell? w _ hw102_1)).trans hw102_1), ((HB.out.cell (World.block_lt_of_cell? w _ hw102_2)).trans hw102_2), ((HB.out.cell (World.block_lt_of_cell? w _ hw102_3)).trans hw102_3)⟩ (fun hHeld => ?_); refine with_tabW hanaperref05_SameAll.tab6 hanaperref05_SameAll.bits6 (fun HT_ HW_ => ?_)
        generalize wr.drew = w11 at HB HR101_2 HR101_3 HR102_2 HR102_3 hx101_0 hx101_1 hx101_2 hx101_3 hx102_0 hx102_1 hx102_2 hx102_3 hHeld ⊢
        refine pure_ (i := 0) (N := some 17) (v := ?_) (a' := ?_) #[true, false, false, false, false, false, false, false, false, false] rfl rfl (any_of HT_.out (by kernel_rfl)) (fun _ _ _ h => h) (Or.inl ⟨by rfl, ?_⟩) ?_ ?_
        rotate_left
        ·intro w'
         go_simp
         with_reducible rfl
        rotate_left
        ·simp only [Act.put, List.setIfInBounds_toArray, List.set_cons_zero, List.set_cons_succ, i64_w, i32_w]
         rfl
        refine pure_ (i := 1) (N := some 18) (v := ?_) (a' := ?_) #[true, true, false, false, false, false, false, false, false, false] rfl rfl (any_of HT_.out (by kernel_rfl)) (fun _ _ _ h => h) (Or.inl ⟨by rfl, ?_⟩) ?_ ?_
        rotate_left
        ·intro w'
         go_simp
         with_reducible rfl
        rotate_left
        ·simp only [Act.put, List.setIfInBounds_toArray, List.set_cons_zero, List.set_cons_succ, i64_w, i32_w]
         rfl
        refine pure_ (i := 2) (N := some 19) (v := ?_) (a' := ?_) #[true, true, true, false, false, false, false, false, false, false] rfl rfl (any_of HT_.out (by kernel_rfl)) (fun _ _ _ h => h) (Or.inl ⟨by rfl, ?_⟩) ?_ ?_
        rotate_left
        ·intro w'
         go_simp
         with_reducible rfl
        rotate_left
        ·simp only [Act.put, List.setIfInBounds_toArray, List.set_cons_zero, List.set_cons_succ, i64_w, i32_w]
         rfl
        refine pure_ (i := 4) (N := some 21) (v := ?_) (a' := ?_) #[true, true, true, false, true, false, false, false, false, false] rfl rfl (any_of HT_.out (by kernel_rfl)) (fun _ _ _ h => h) (Or.inl ⟨by rfl, ?_⟩) ?_ ?_
        rotate_left
        ·intro w'
         go_simp
         with_reducible rfl
        rotate_left
        ·simp only [Act.put, List.setIfInBounds_toArray, List.set_cons_zero, List.set_cons_succ, i64_w, i32_w]
         rfl
        refine pure_ (i := 5) (N := some 22) (v := ?_) (a' := ?_) #[true, true, true, false, true, true, false, false, false, false] rfl rfl (any_of HT_.out (by kernel_rfl)) (fun _ _ _ h => h) (Or.inl ⟨by rfl, ?_⟩) ?_ ?_
        rotate_left
        ·intro w'
         go_simp
         with_reducible rfl
        rotate_left
        ·simp only [Act.put, List.setIfInBounds_toArray, List.set_cons_zero, List.set_cons_succ, i64_w, i32_w]
         rfl
        refine pure_ (i := 6) (N := some 23) (v := ?_) (a' := ?_) #[true, true, true, false, true, true, true, false, false, false] rfl rfl (any_of HT_.out (by kernel_rfl)) (fun _ _ _ h => h) (Or.inl ⟨by rfl, ?_⟩) ?_ ?_
        rotate_left
        ·intro w'
         go_simp
         with_reducible rfl
        rotate_left
        ·simp only [Act.put, List.setIfInBounds_toArray, List.set_cons_zero, List.set_cons_succ, i64_w, i32_w]
         rfl
        refine take_ (i := 3) (N := some 20) (v := ?_) (a' := ?_) #[true, true, true, true, true, true, true, false, false, false] rfl rfl (take_ofW HT_.out HW_.out (by kernel_rfl)) (fun _ _ _ h => h) (Or.inl ⟨by rfl, ?_⟩) hHeld ?_ ?_
        rotate_left
        ·rintro w' ⟨s0, s1, s2, s3, s4, s5, s6, s7⟩
         go_simp
         with_reducible rfl
        rotate_left
        ·simp only [Act.put, List.setIfInBounds_toArray, List.set_cons_zero, List.set_cons_succ, i64_w, i32_w]
         rfl
        refine take_ (i := 7) (N := some 24) (v := ?_) (a' := ?_) #[true, true, true, true, true, true, true, true, false, false] rfl rfl (take_ofW HT_.out HW_.out (by kernel_rfl)) (fun _ _ _ h => h) (Or.inl ⟨by rfl, ?_⟩) hHeld ?_ ?_
        rotate_left
        ·rintro w' ⟨s0, s1, s2, s3, s4, s5, s6, s7⟩
         go_simp
         with_reducible rfl
        rotate_left
        ·simp only [Act.put, List.setIfInBounds_toArray, List.set_cons_zero, List.set_cons_succ, i64_w, i32_w]
         rfl
        refine one_ (i := 8) (N := some 25) #[true, true, true, true, true, true, true, true, true, false] rfl rfl (one_of HT_.out (by kernel_rfl)) (by decide) (fun K hK => ?_)
        refine goes_ Try.func20 (by kernel_rfl) rfl #[.agg #[.int .i64 ((rd_T26 l0 x5_1).f0), .int .u64 ((rd_T26 l0 x5_1).f1), .slice A101_2 ((rd_T26 l0 x5_1).f2).length c101_2, .slice A101_3 ((rd_T26 l0 x5_1).f3).length c101_3], .agg #[.int .i64 ((rd_T26 l1 x5_1).f0), .int .u64 ((rd_T26 l1 x5_1).f1), .slice A102_2 ((rd_T26 l1 x5_1).f2).length c102_2, .slice A102_3 ((rd_T26 l1 x5_1).f3).length c102_3]] (by rfl) rfl rfl (by (try simp only [List.map_toArray, List.map_cons, List.map_nil]); first | done | rfl | (simp only [List.length_drop, List.length_take]; rfl)) ?_
        with_reducible refine (hanaperref05_Same.calls k1 ((rd_T26 l0 x5_1).f0) ((rd_T26 l0 x5_1).f1) _ _ ((rd_T26 l0 x5_1).f2) _ _ ((rd_T26 l0 x5_1).f3) ((rd_T26 l1 x5_1).f0) ((rd_T26 l1 x5_1).f1) _ _ ((rd_T26 l1 x5_1).f2) _ _ ((rd_T26 l1 x5_1).f3) false _ ?side1 ?side2 ?side3 ?side4 ?side5 ?side6 ?side7 ?side8 A7.out).mono ?_
        (case side1 => repeat (first | exact (Kd.C_below HR101_2.out HB.out) | (with_reducible refine Kd.C_alloc ?_ _) | (with_reducible refine Kd.C_drewN ?_ _) | (with_reducible refine Kd.C_drew ?_)))
        (case side2 => exact HC101_2.out)
        (case side3 => repeat (first | exact (Kd.C_below HR101_3.out HB.out) | (with_reducible refine Kd.C_alloc ?_ _) | (with_reducible refine Kd.C_drewN ?_ _) | (with_reducible refine Kd.C_drew ?_)))
        (case side4 => exact HC101_3.out)
        (case side5 => repeat (first | exact (Kd.C_below HR102_2.out HB.out) | (with_reducible refine Kd.C_alloc ?_ _) | (with_reducible refine Kd.C_drewN ?_ _) | (with_reducible refine Kd.C_drew ?_)))
        (case side6 => exact HC102_2.out)
        (case side7 => repeat (first | exact (Kd.C_below HR102_3.out HB.out) | (with_reducible refine Kd.C_alloc ?_ _) | (with_reducible refine Kd.C_drewN ?_ _) | (with_reducible refine Kd.C_drew ?_)))
        (case side8 => exact HC102_3.out)
        rintro e w12 ⟨rfl, hb⟩
        refine ⟨_, rfl, ?_⟩
        have n0_ := Aside0.mk (below_step (by repeat (first | (with_reducible first | exact HB.out | apply below_alloc | apply pw_below_drewN | apply below_drew1) | exact HB.out)) hb)
        clear HB
        have HB := n0_
        clear n0_
        (try clear hb)
        (try clear hb2)
        (try clear hk)
        (try clear hi)
        refine hK.out _ _ ⟨((HB.out.cell (World.block_lt_of_cell? w _ hw101_0)).trans hw101_0), ((HB.out.cell (World.block_lt_of_cell? w _ hw101_1)).trans hw101_1), ((HB.out.cell (World.block_lt_of_cell? w _ hw101_2)).trans hw101_2), ((HB.out.cell (World.block_lt_of_cell? w _ hw101_3)).trans hw101_3), ((HB.out.cell (World.block_lt_of_cell? w _ hw102_0)).trans hw102_0), ((HB.out.cell (World.block_lt_of_cell? w _ hw102_1)).trans hw102_1), ((HB.out.cell (World.block_lt_of_cell? w _ hw102_2)).trans hw102_2), ((HB.out.cell (World.block_lt_of_cell? w _ hw102_3)).trans hw102_3)⟩ (fun hHeld => ?_)
        clear hK K
        refine norm_ (a' := ?_) ?_ ?_
        rotate_left
        ·show Act.put _ (some 25) _ = _
         simp only [Act.put, List.setIfInBounds_toArray, List.set_cons_zero, List.set_cons_succ, i64_w, i32_w]
         rfl
        refine pure_ (i := 9) (N := some 26) (v := ?_) (a' := ?_) #[true, true, true, true, true, true, true, true, true, true] rfl rfl (any_of HT_.out (by kernel_rfl)) (fun _ _ _ h => h) (Or.inl ⟨by rfl, ?_⟩) ?_ ?_
        rotate_left
        ·intro w'
         go_simp
         with_reducible rfl
        rotate_left
        ·simp only [Act.put, List.setIfInBounds_toArray, List.set_cons_zero, List.set_cons_succ, i64_w, i32_w]
         rfl
        refine done_ (done_of HT_.out (by kernel_rfl)) ?_
        try go_wp2
        go_ret
        exact ⟨by first | rfl | (simp [errW_none, errW_some] <;> rfl) | (simp [*, errW_none, errW_some] <;> rfl), by repeat (first | (with_reducible first | exact HB.out | apply below_alloc | apply pw_below_drewN | apply below_drew1) | exact HB.out)⟩
      ·rw [if_neg c6] at H
       exact absurd H (by simp)
     ·rw [if_neg c5] at H
      exact absurd H (by simp)
    ·rw [if_neg c4] at H
     have c4b0 : decide (x5_1 < (l0.length : Int)) = false := decide_eq_false c4
     clear c4
     obtain rfl := Option.some.inj H
     go_wp2
     go_ret
     exact ⟨by first | rfl | (simp [errW_none, errW_some] <;> rfl) | (simp [*, errW_none, errW_some] <;> rfl), by repeat (first | (with_reducible first | exact HB.out | apply below_alloc | apply pw_below_drewN | apply below_drew1) | exact HB.out)⟩
 ·rw [if_neg c3] at H
  have c3b0 : ((l0.length : Int) == (l1.length : Int)) = false := beq_eq_false_iff_ne.mpr c3
  have c3b1 : ((l0.length : Int) != (l1.length : Int)) = true := bne_iff_ne.mpr c3
  have c3b2 : (l0.length == l1.length) = false := by first | simpa using c3 | (simp at c3 ⊢; omega)
  obtain rfl := Option.some.inj H
  go_enter Try.func27, Try.ntmps27
  go_wp2
  go_ret
  exact ⟨by first | rfl | (simp [errW_none, errW_some] <;> rfl) | (simp [*, errW_none, errW_some] <;> rfl), by repeat (first | (with_reducible first | exact HB.out | apply below_alloc | apply pw_below_drewN | apply below_drew1) | exact HB.out)⟩

end Go.Proofs.Ytgohmganimamcaa.PZ
-- printed for this claim by a program (pall.sh)
-- mended by fixpz.py
namespace Go.Proofs.Ytgohmganimamcaa.PZ
open Go.RowKit Go.Proofs.YtgohmganimamcaaW.PrintWords Go.Proofs.YtgohmganimamcaaW.PrintLast Go.Proofs.YtgohmganimamcaaW.PrintMore
attribute [local go_sem] max2_int min2_int max_two min_two max_three min_three max_four min_four   -- for this text's walks alone
set_option linter.unusedVariables false
set_option linter.unusedSimpArgs false

end Go.Proofs.Ytgohmganimamcaa.PZ
-- printed for this claim by a program (pall.sh)
-- mended by fixpz.py
namespace Go.Proofs.Ytgohmganimamcaa.PZ
open Go.RowKit Go.Proofs.YtgohmganimamcaaW.PrintWords Go.Proofs.YtgohmganimamcaaW.PrintLast Go.Proofs.YtgohmganimamcaaW.PrintMore
attribute [local go_sem] max2_int min2_int max_two min_two max_three min_three max_four min_four   -- for this text's walks alone
set_option linter.unusedVariables false
set_option linter.unusedSimpArgs false

end Go.Proofs.Ytgohmganimamcaa.PZ
-- printed for this claim by a program (pall.sh)
-- mended by fixpz.py
namespace Go.Proofs.Ytgohmganimamcaa.PZ
open Go.RowKit Go.Proofs.YtgohmganimamcaaW.PrintWords Go.Proofs.YtgohmganimamcaaW.PrintLast Go.Proofs.YtgohmganimamcaaW.PrintMore
attribute [local go_sem] max2_int min2_int max_two min_two max_three min_three max_four min_four   -- for this text's walks alone
set_option linter.unusedVariables false
set_option linter.unusedSimpArgs false

end Go.Proofs.Ytgohmganimamcaa.PZ
/- What the law TermSame needs of the functions: contracts over terms that are read. -/
namespace Go.Proofs.Ytgohmganimamcaa.Term
set_option linter.unusedVariables false
set_option linter.unusedSimpArgs false
open Go.RowKit Go.Proofs.Ytgohmganimamcaa.Base Go.Proofs.Ytgohmganimamcaa.TlvPlain Go.Proofs.Ytgohmganimamcaa.Lo Go.Proofs.Ytgohmganimamcaa.RdPlain Go.Proofs.Ytgohmganimamcaa.Aid Go.Proofs.Ytgohmganimamcaa.PZ Go.Proofs.YtgohmganimamcaaW.PrintWords Go.Proofs.YtgohmganimamcaaW.PrintLast Go.Proofs.YtgohmganimamcaaW.PrintMore
theorem eta_T (x : ST) : (⟨x.f0, x.f1, x.f2, x.f3⟩ : ST) = x := by cases x; rfl
mutual
/-- A term's rows are short. -/
def lenT : ST → Prop
  | ⟨_, _, d, ks⟩ => d.length ≤ 500 ∧ ks.length ≤ 60 ∧ lenTs ks
def lenTs : List ST → Prop
  | [] => True
  | k :: ks => lenT k ∧ lenTs ks
end
theorem lenTs_mem : ∀ {l : List ST} {k : ST}, lenTs l → k ∈ l → lenT k
  | a :: l, k, h, hk => by
    rw [lenTs] at h
    rcases List.mem_cons.1 hk with rfl | hk
    · exact h.1
    · exact lenTs_mem h.2 hk
theorem lenTs_of : ∀ {l : List ST}, (∀ k ∈ l, lenT k) → lenTs l
  | [], _ => by rw [lenTs]; trivial
  | a :: l, h => by rw [lenTs]; exact ⟨h a (by simp), lenTs_of (fun k hk => h k (by simp [hk]))⟩
theorem lenT_eq (x : ST) : lenT x ↔ x.f2.length ≤ 500 ∧ x.f3.length ≤ 60 ∧ lenTs x.f3 := by cases x; rw [lenT]
theorem rest_ev2 : ∀ (d : Nat), d ≤ 40 → ∀ (x : ST) (m : Int), m ≤ 60 → ∃ r, -1 ≤ r ∧ r ≤ 60 ∧ Ev (fun k => hanaperref05_rest.f k x.f0 x.f1 x.f2 x.f3 m (d : Int)) r ∧ (0 ≤ r → lenT x) := by
  intro d
  induction d with
  | zero =>
    intro _ x m hm
    have bad : Ev (fun k => hanaperref05_rest.j0 k m ((0 : Nat) : Int) true x.f0 x.f1 x.f2 x.f3) (-1) := Ev.step (fun k => by simp only [hanaperref05_rest.j0]; rfl) (pos (show true = true from rfl) (now rfl))
    refine ⟨-1, by omega, by omega, Ev.step (fun k => by simp only [hanaperref05_rest.f]; rfl) ?_, fun h => by omega⟩
    by_cases h1 : m < 1
    · exact pos h1 bad
    · exact neg h1 (pos (by omega) bad)
  | succ d ih =>
    intro hd x m hm
    have bad : Ev (fun k => hanaperref05_rest.j0 k m ((d + 1 : Nat) : Int) true x.f0 x.f1 x.f2 x.f3) (-1) := Ev.step (fun k => by simp only [hanaperref05_rest.j0]; rfl) (pos (show true = true from rfl) (now rfl))
    by_cases h1 : m < 1
    · exact ⟨-1, by omega, by omega, Ev.step (fun k => by simp only [hanaperref05_rest.f]; rfl) (pos h1 bad), fun h => by omega⟩
    by_cases h3 : (x.f3.length : Int) > m
    · exact ⟨-1, by omega, by omega, Ev.step (fun k => by simp only [hanaperref05_rest.f]; rfl) (neg h1 (neg (by omega) (pos h3 bad))), fun h => by omega⟩
    have hdec : wrap64 (((d + 1 : Nat) : Int) - 1) = (d : Int) := by rw [Aid.w64 (by omega) (by omega)]; omega
    have loop : ∀ (n i : Nat) (y : Int), i + n = x.f3.length → -1 ≤ y → y ≤ 60 → ∃ r, -1 ≤ r ∧ r ≤ 60 ∧ Ev (fun k => hanaperref05_rest.l0 k y ((d + 1 : Nat) : Int) (i : Int) x.f0 x.f1 x.f2 x.f3) r ∧ (0 ≤ r → 0 ≤ y ∧ ∀ k ∈ x.f3.drop i, lenT k) := by
      intro n
      induction n with
      | zero =>
        intro i y hi hy hy2
        refine ⟨y, hy, hy2, Ev.step (fun k => by simp only [hanaperref05_rest.l0]; rfl) (neg (by omega) (now rfl)), fun h => ⟨h, ?_⟩⟩
        rw [List.drop_eq_nil_of_le (by omega)]
        simp
      | succ n ihn =>
        intro i y hi hy hy2
        have hlt : i < x.f3.length := by omega
        by_cases hy0 : y ≥ 0
        · obtain ⟨r1, a1, b1, e1, g1⟩ := ih (by omega) x.f3[i] y hy2
          obtain ⟨r2, a2, b2, e2, g2⟩ := ihn (i + 1) r1 (by omega) a1 b1
          refine ⟨r2, a2, b2, Ev.step (fun k => by simp only [hanaperref05_rest.l0]; rfl) (pos (by omega) (pos hy0 (pos (by omega) ?_))), fun h => ⟨hy0, ?_⟩⟩
          · rw [rd_at x.f3 i hlt, hdec]
            refine evBind e1 ?_
            rw [inc hlt (by omega)]
            exact e2
          · rw [drop_cons _ _ hlt]
            intro k hk
            rcases List.mem_cons.1 hk with rfl | hk
            · exact g1 (g2 h).1
            · exact (g2 h).2 k hk
        · exact ⟨y, hy, hy2, Ev.step (fun k => by simp only [hanaperref05_rest.l0]; rfl) (pos (by omega) (neg hy0 (now rfl))), fun h => absurd h hy0⟩
    by_cases h4 : (x.f2.length : Int) > 500
    · refine ⟨-1, by omega, by omega, Ev.step (fun k => by simp only [hanaperref05_rest.f]; rfl) (neg h1 (neg (by omega) (neg h3 ?_))), fun h => by omega⟩
      rw [decide_eq_true h4]
      exact bad
    · obtain ⟨r, a, b, e, g⟩ := loop x.f3.length 0 (m - 1) (by omega) (by omega) (by omega)
      refine ⟨r, a, b, Ev.step (fun k => by simp only [hanaperref05_rest.f]; rfl) (neg h1 (neg (by omega) (neg h3 ?_))), fun h => (lenT_eq x).2 ⟨by omega, by omega, lenTs_of (g h).2⟩⟩
      rw [decide_eq_false h4]
      refine Ev.step (fun k => by simp only [hanaperref05_rest.j0]; rfl) (neg (by decide) ?_)
      rw [Aid.w64 (by omega) (by omega)]
      exact e
theorem rsame_ev : ∀ (n : Nat) (x y : ST), SizeOf.sizeOf x < n → lenT x → Ev (fun k => hanaperref05_Same.f k x.f0 x.f1 x.f2 x.f3 y.f0 y.f1 y.f2 y.f3) (eqT x y) := by
  intro n
  induction n with
  | zero => intro x y h; exact absurd h (by omega)
  | succ n ih =>
    intro x y hn hx
    obtain ⟨h2, h3, hk⟩ := (lenT_eq x).1 hx
    have bad : Ev (fun k => hanaperref05_Same.j0 k true x.f0 x.f1 x.f2 x.f3 y.f0 y.f1 y.f2 y.f3) false := Ev.step (fun k => by simp only [hanaperref05_Same.j0]; rfl) (pos (show true = true from rfl) (now rfl))
    have loop : x.f3.length = y.f3.length → ∀ (m i : Nat), i + m = x.f3.length → Ev (fun k => hanaperref05_Same.l0 k (i : Int) x.f0 x.f1 x.f2 x.f3 y.f0 y.f1 y.f2 y.f3) (eqTs (x.f3.drop i) (y.f3.drop i)) := by
      intro hl m
      induction m with
      | zero =>
        intro i hi
        rw [List.drop_eq_nil_of_le (by omega), List.drop_eq_nil_of_le (by omega)]
        exact Ev.step (fun k => by simp only [hanaperref05_Same.l0]; rfl) (neg (by omega) (now (by rw [eqTs])))
      | succ m ihm =>
        intro i hi
        have hlt : i < x.f3.length := by omega
        have hlt2 : i < y.f3.length := by omega
        rw [drop_cons _ _ hlt, drop_cons _ _ hlt2, eqTs]
        refine Ev.step (fun k => by simp only [hanaperref05_Same.l0]; rfl) (pos (by omega) (pos (by omega) (pos (by omega) ?_)))
        rw [rd_at x.f3 i hlt, rd_at y.f3 i hlt2]
        have hs : SizeOf.sizeOf x.f3[i] < n := by
          have h1 := List.sizeOf_lt_of_mem (List.getElem_mem hlt)
          have h2 : SizeOf.sizeOf x.f3 < SizeOf.sizeOf x := by cases x; simp; omega
          omega
        refine evBind (ih x.f3[i] y.f3[i] hs (lenTs_mem hk (List.getElem_mem hlt))) ?_
        cases hq : eqT x.f3[i] y.f3[i] with
        | false => rw [Bool.false_and]; exact neg (by decide) (now rfl)
        | true =>
          rw [Bool.true_and]
          refine pos rfl ?_
          rw [inc hlt (by omega)]
          exact ihm (i + 1) (by omega)
    have he : eqT x y = ((decide (x.f0 = y.f0) && decide (x.f1 = y.f1)) && (decide (x.f2 = y.f2) && eqTs x.f3 y.f3)) := by cases x; cases y; rw [eqT]
    rw [he]
    refine Ev.step (fun k => by simp only [hanaperref05_Same.f]; rfl) ?_
    by_cases c0 : x.f0 = y.f0
    · rw [decide_eq_true c0, Bool.true_and]
      refine pos c0 ?_
      by_cases c1 : x.f1 = y.f1
      · rw [decide_eq_true c1, Bool.true_and]
        refine pos c1 (evBind (same_ev x.f2 y.f2 (by omega)) ?_)
        by_cases c2 : x.f2 = y.f2
        · rw [decide_eq_true c2, Bool.true_and]
          refine pos (show true = true from rfl) ?_
          by_cases c3 : x.f3.length = y.f3.length
          · rw [show ((x.f3.length : Int) != (y.f3.length : Int)) = false by rw [c3]; simp]
            have h := loop c3 x.f3.length 0 (by omega)
            rw [List.drop_zero, List.drop_zero] at h
            exact Ev.step (fun k => by simp only [hanaperref05_Same.j0]; rfl) (neg (by decide) h)
          · rw [show ((x.f3.length : Int) != (y.f3.length : Int)) = true by simp; omega]
            have hf : eqTs x.f3 y.f3 = false := by
              rw [Bool.eq_false_iff]
              intro h
              rw [(eqTs_iff _ _).1 h] at c3
              exact c3 rfl
            rw [hf]
            exact bad
        · rw [decide_eq_false c2, Bool.false_and]
          exact neg (by decide) bad
      · rw [decide_eq_false c1, Bool.false_and]
        exact neg c1 bad
    · rw [decide_eq_false c0, Bool.false_and, Bool.false_and]
      exact neg c0 bad
theorem eqT_refl (x : ST) : eqT x x = true := (eqT_iff x x).2 rfl
mutual
theorem parts_lenT : ∀ (x : ST), lenT x → ∀ p ∈ partsT x, lenT p
  | ⟨a, n, d, ks⟩, h, p, hp => by
    rw [partsT] at hp
    rcases List.mem_cons.1 hp with rfl | hp
    · exact h
    · exact parts_lenTs ks ((lenT_eq _).1 h).2.2 p hp
theorem parts_lenTs : ∀ (l : List ST), lenTs l → ∀ p ∈ partsTs l, lenT p
  | [], _, p, hp => by rw [partsTs] at hp; cases hp
  | k :: ks, h, p, hp => by
    rw [partsTs] at hp
    rw [lenTs] at h
    rcases List.mem_append.1 hp with hp | hp
    · exact parts_lenT k h.1 p hp
    · exact parts_lenTs ks h.2 p hp
end
theorem sameall_ev (l : List ST) (hl : l.length ≤ 1000000) (h : ∀ p ∈ l, lenT p) : Ev (fun k => hanaperref05_SameAll.f k l l) true := by
  have loop : ∀ (m i : Nat), i + m = l.length → Ev (fun k => hanaperref05_SameAll.l0 k l l (i : Int)) true := by
    intro m
    induction m with
    | zero => intro i hi; exact Ev.step (fun k => by simp only [hanaperref05_SameAll.l0]; rfl) (neg (by omega) (now rfl))
    | succ m ih =>
      intro i hi
      have hlt : i < l.length := by omega
      refine Ev.step (fun k => by simp only [hanaperref05_SameAll.l0]; rfl) (pos (by omega) (pos (by omega) (pos (by omega) ?_)))
      rw [rd_at l i hlt]
      have he := rsame_ev _ l[i] l[i] (Nat.lt_succ_self _) (h _ (List.getElem_mem hlt))
      rw [eqT_refl] at he
      refine evBind he (pos rfl ?_)
      rw [inc hlt (by omega)]
      exact ih (i + 1) (by omega)
  unfold hanaperref05_SameAll.f
  exact pos rfl (loop l.length 0 (by omega))
theorem rparts_ev : ∀ (d : Nat) (x : ST), d ≤ 8 → mayT d x = true → Ev (fun k => hanaperref05_Parts.f k x.f0 x.f1 x.f2 x.f3) (partsT x) := by
  intro d
  induction d with
  | zero => intro x _ h; rw [mayT] at h; cases h
  | succ d ih =>
    intro x hd h
    have hpl := parts_len (d + 1) x h
    obtain ⟨_, h2, _, _, _, _, h7⟩ := may_parts h
    have hk2 : x.f3.length ≤ 2 := by have := kid_len x.f0; omega
    have hpow : 2 ^ (d + 1) ≤ 2 ^ 8 := Nat.pow_le_pow_right (by decide) hd
    have loop : ∀ (m i : Nat), i + m = x.f3.length → Ev (fun k => hanaperref05_Parts.l0 k (x :: ((x.f3.take i).map partsT).flatten) (i : Int) x.f0 x.f1 x.f2 x.f3) (partsT x) := by
      intro m
      induction m with
      | zero =>
        intro i hi
        refine Ev.step (fun k => by simp only [hanaperref05_Parts.l0]; rfl) (neg (by omega) (now ?_))
        rw [partsT_eq, List.take_of_length_le (by omega)]
      | succ m ihm =>
        intro i hi
        have hlt : i < x.f3.length := by omega
        refine Ev.step (fun k => by simp only [hanaperref05_Parts.l0]; rfl) (pos (by omega) (pos (by omega) ?_))
        rw [rd_at x.f3 i hlt]
        refine evBind (ih x.f3[i] (by omega) (h7 _ (List.getElem_mem hlt))) ?_
        have hle := lflat_le partsT x.f3 i hlt
        have hb : (x.f3.map partsT).flatten.length + 1 ≤ 2 ^ 8 := by
          rw [partsT_eq, List.length_cons] at hpl
          have : 0 < 2 ^ (d + 1) := Nat.two_pow_pos _
          omega
        refine pos (by simp only [List.length_cons]; omega) ?_
        rw [inc hlt (by omega), List.cons_append, ← lflat_snoc partsT x.f3 i hlt]
        exact ihm (i + 1) (by omega)
    have h := loop x.f3.length 0 (by omega)
    simp only [List.take_zero, List.map_nil, List.flatten_nil] at h
    exact Ev.step (fun k => by simp only [hanaperref05_Parts.f]; rw [eta_T]; rfl) h
/-- A value that is a term, read. -/
def TmV (w : World) (x : ST) (v : Value) : Prop := ∃ A2 c2 A3 c3, v = .agg #[.int .i64 x.f0, .int .u64 x.f1, .slice A2 x.f2.length c2, .slice A3 x.f3.length c3] ∧ RowsT w x A2 c2 A3 c3
theorem TmV.below {w w' : World} {x : ST} {v : Value} (h : TmV w x v) (hb : Below w.heap.size w w') : TmV w' x v := by
  obtain ⟨A2, c2, A3, c3, rfl, hr⟩ := h
  exact ⟨A2, c2, A3, c3, rfl, hr.below hb⟩
theorem tm_of {w : World} {base b2 : Nat} {ok ok2 : Nat → Prop} {a n : Int} {l2 : List Int} {l3 : List ST} {v2 v3 : Value} (h2 : Kd.R (Kd.int .u8) 5 w base ok v2 l2) (h3 : Kd.N k26 26 w b2 ok2 v3 l3) : TmV w ⟨a, n, l2, l3⟩ (.agg #[.int .i64 a, .int .u64 n, v2, v3]) := by
  obtain ⟨A2, c2, rfl⟩ := Kd.R_slice h2
  obtain ⟨A3, c3, rfl⟩ := Kd.N_slice h3
  exact ⟨A2, c2, A3, c3, rfl, ⟨(Kd.R_reads' h2).2.1, (Kd.R_reads' h2).2.2⟩, (Kd.N_reads' h3).2.1, (Kd.N_reads' h3).2.2⟩
/-- A value that is a term, read in the blocks of ok. -/
def TmF (w : World) (ok : Nat → Prop) (x : ST) (v : Value) : Prop := ∃ A2 c2 A3 c3, v = .agg #[.int .i64 x.f0, .int .u64 x.f1, .slice A2 x.f2.length c2, .slice A3 x.f3.length c3] ∧ RowsF w ok x A2 c2 A3 c3
theorem tf_of {w : World} {base b2 : Nat} {ok ok2 ok3 : Nat → Prop} {a n : Int} {l2 : List Int} {l3 : List ST} {v2 v3 : Value} (h2 : Kd.R (Kd.int .u8) 5 w base ok v2 l2) (h3 : Kd.N k26 26 w b2 ok2 v3 l3) (ho : ∀ k, ok k → ok3 k) (ho2 : ∀ k, ok2 k → ok3 k) : TmF w ok3 ⟨a, n, l2, l3⟩ (.agg #[.int .i64 a, .int .u64 n, v2, v3]) := by
  obtain ⟨A2, c2, rfl⟩ := Kd.R_slice h2
  obtain ⟨A3, c3, rfl⟩ := Kd.N_slice h3
  have g3 := Kd.V_at (Kd.N_V (base' := 0) h3)
  exact ⟨A2, c2, A3, c3, rfl, ⟨(Kd.R_reads' h2).2.1, Kd.F_mono (Kd.R_F h2) ho⟩, g3.2.1, Kd.F_mono g3.2.2 ho2⟩
theorem rowsF_of {w0 w : World} {x : ST} {A2 A3 : Option Addr} {c2 c3 : Nat} (h : RowsT w0 x A2 c2 A3 c3) (hb : Below w0.heap.size w0 w) : RowsF w (fun k => k < w0.heap.size) x A2 c2 A3 c3 :=
  ⟨⟨h.1.1, Kd.F_below (Kd.C_F (Kd.heap_int .u8) h.1.2) hb⟩, h.2.1, Kd.F_below (Kd.C_F k26_heap h.2.2) hb⟩
theorem v2_of {w : World} {ok : Nat → Prop} {x : ST} {A2 A3 : Option Addr} {c2 c3 : Nat} (h : RowsF w ok x A2 c2 A3 c3) : Kd.V (Kd.int .u8) 5 w w.heap.size (fun k => ok k) (.slice A2 x.f2.length c2) x.f2 := Kd.V_mk h.1.1 h.1.2
theorem v3_of {w : World} {ok : Nat → Prop} {x : ST} {A2 A3 : Option Addr} {c2 c3 : Nat} (h : RowsF w ok x A2 c2 A3 c3) : Kd.V k26 26 w w.heap.size (fun k => ok k) (.slice A3 x.f3.length c3) x.f3 := Kd.V_mk h.2.1 h.2.2
theorem enc_c (n : Int) {x y : ST} {ok : Nat → Prop} {A2 A3 B2 B3 : Option Addr} {c2 c3 d2 d3 : Nat} {w : World} (h : RowsF w ok x A2 c2 A3 c3) (g : RowsF w ok y B2 d2 B3 d3) :
    Calls Try.prog 34 #[.int .u64 n, .agg #[.int .i64 x.f0, .int .u64 x.f1, .slice A2 x.f2.length c2, .slice A3 x.f3.length c3], .agg #[.int .i64 y.f0, .int .u64 y.f1, .slice B2 y.f2.length d2, .slice B3 y.f3.length d3]] w fun e w' => ∃ v, e = .returned v ∧ TmF w' (fun k => ok k ∨ w.heap.size ≤ k) ⟨5, n, [], [x, y]⟩ v ∧ Below w.heap.size w w' := by
  refine (term_Enc.calls n x.f0 x.f1 ok A2 c2 x.f2 ok A3 c3 x.f3 y.f0 y.f1 ok B2 d2 y.f2 ok B3 d3 y.f3 5 n [] [x, y] w (v2_of h) (v3_of h) (v2_of g) (v3_of g) (by unfold term_Enc.f; rw [eta_T, eta_T])).mono ?_
  rintro e w' ⟨v2, v3, rfl, h2, h3, hb⟩
  exact ⟨_, rfl, tf_of h2 h3 (fun k hk => .inr hk) (fun k hk => by rcases hk.1 with (h | h | h | h) | h <;> first | exact .inl h | exact .inr h), hb⟩
theorem key_c (n : Int) (w : World) : Calls Try.prog 37 #[.int .u64 n] w fun e w' => ∃ v, e = .returned v ∧ TmV w' ⟨2, n, [], []⟩ v ∧ Below w.heap.size w w' := by
  refine (term_Key.calls n 2 n [] [] w rfl).mono ?_
  rintro e w' ⟨v2, v3, rfl, h2, h3, hb⟩
  exact ⟨_, rfl, tm_of h2 (Kd.R_N h3), hb⟩
theorem data_c {x : ST} {A2 A3 : Option Addr} {c2 c3 : Nat} {w : World} (h : RowsT w x A2 c2 A3 c3) (hu : U8 x.f2) (hl : lenT x) :
    Calls Try.prog 38 #[.slice A2 x.f2.length c2] w fun e w' => ∃ v, e = .returned v ∧ TmV w' ⟨3, 0, x.f2, []⟩ v ∧ Below w.heap.size w w' := by
  have hf : term_Data.f x.f2 = some (3, 0, x.f2, []) := by
    have := ((lenT_eq x).1 hl).1
    unfold term_Data.f
    rw [show bytes_Clone.f x.f2 = some x.f2 from if_pos (by omega)]
    rfl
  refine (term_Data.calls A2 c2 x.f2 3 0 x.f2 [] w h.1.2 h.1.1 hf).mono ?_
  rintro e w' ⟨v2, v3, rfl, h2, h3, hb⟩
  exact ⟨_, rfl, tm_of h2 (Kd.R_N h3), hb⟩
/-- A row of terms, read. -/
def LsV (w : World) (l : List ST) (v : Value) : Prop := ∃ A c, v = .slice A l.length c ∧ l.length ≤ c ∧ Kd.C k26 w A l.length l
theorem LsV.below {w w' : World} {l : List ST} {v : Value} (h : LsV w l v) (hb : Below w.heap.size w w') : LsV w' l v := by
  obtain ⟨A, c, rfl, h1, h2⟩ := h
  exact ⟨A, c, rfl, h1, Kd.C_below h2 hb⟩
theorem ls_of {w : World} {base : Nat} {ok : Nat → Prop} {l : List ST} {v : Value} (h : Kd.N k26 26 w base ok v l) : LsV w l v := by
  obtain ⟨A, c, rfl⟩ := Kd.N_slice h
  exact ⟨A, c, rfl, (Kd.N_reads' h).2.1, (Kd.N_reads' h).2.2⟩
theorem partsV_len (x : ST) : (partsV x).length ≤ 1000000 := by
  unfold partsV
  split
  · next h => have := parts_len 8 x h; omega
  · simp
theorem same2_c {x y : ST} (hx : wfT x) (hy : wfT y) {A2 A3 B2 B3 : Option Addr} {c2 c3 d2 d3 : Nat} {w : World} (h : RowsT w x A2 c2 A3 c3) (g : RowsT w y B2 d2 B3 d3) :
    Calls Try.prog 22 #[.agg #[.int .i64 x.f0, .int .u64 x.f1, .slice A2 x.f2.length c2, .slice A3 x.f3.length c3], .agg #[.int .i64 y.f0, .int .u64 y.f1, .slice B2 y.f2.length d2, .slice B3 y.f3.length d3]] w fun e w' => e = .returned (.bool (eqT x y)) ∧ Below w.heap.size w w' :=
  term_Same.calls x.f0 x.f1 A2 c2 x.f2 A3 c3 x.f3 y.f0 y.f1 B2 d2 y.f2 B3 d3 y.f3 _ w h.1.2 h.1.1 h.2.2 h.2.1 g.1.2 g.1.1 g.2.2 g.2.1 (by
    obtain ⟨a, b, c, d⟩ := x
    obtain ⟨a', b', c', d'⟩ := y
    unfold term_Same.f
    exact if_pos (by rw [Bool.and_eq_true]; exact ⟨(wfB_iff _).2 hx, (wfB_iff _).2 hy⟩))
end Go.Proofs.Ytgohmganimamcaa.Term
/- A held region whose allocs and calls come in whatever order: by what has come up so far. -/
namespace Go.Proofs.Ytgohmganimamcaa.Term
set_option linter.unusedVariables false
set_option linter.unusedSimpArgs false
open Go.RowKit Go.Proofs.Ytgohmganimamcaa.Base Go.Proofs.Ytgohmganimamcaa.TlvPlain Go.Proofs.Ytgohmganimamcaa.Lo Go.Proofs.Ytgohmganimamcaa.RdPlain Go.Proofs.Ytgohmganimamcaa.Aid Go.Proofs.Ytgohmganimamcaa.PZ Go.Proofs.YtgohmganimamcaaW.PrintWords Go.Proofs.YtgohmganimamcaaW.PrintLast Go.Proofs.YtgohmganimamcaaW.PrintMore
section
variable {P : Program} {ops : Array Oper} {Q : Exit → Act → World → Prop} {md : Region.Mode} {S : World → Prop} {J : Nat → Array Bool → Act → World → Prop}
/-- Each of the operations rs may come up next; behind it S and J hold. -/
def AllJ (P : Program) (ops : Array Oper) (Q : Exit → Act → World → Prop) (S : World → Prop) (J : Nat → Array Bool → Act → World → Prop) (n : Nat) (listed : Array Bool) (a : Act) (w : World) (rs : List Nat) : Prop :=
  ∀ i ∈ rs, wpOp P ops Q i (fun a' w' => S w' ∧ J n (listed.setIfInBounds i true) a' w') a w
theorem AllJ.nil {n : Nat} {listed : Array Bool} {a : Act} {w : World} : AllJ P ops Q S J n listed a w [] := fun _ h => by cases h
theorem AllJ.cons {n : Nat} {listed : Array Bool} {a : Act} {w : World} {i : Nat} {o : Oper} {rs : List Nat} (ho : ops[i]? = some o)
    (h : ∀ K' : Act → World → Prop, Shut (∀ a w, S w → J n (listed.setIfInBounds i true) a w → K' a w) → if Region.wanted o (yielded ops a.tmps) = true then Oper.wp P o a w K' Q else K' (a.put o.dst undef) w)
    (hs : AllJ P ops Q S J n listed a w rs) : AllJ P ops Q S J n listed a w (i :: rs) := fun j hj => by
  rcases List.mem_cons.1 hj with rfl | hj
  · exact wpOp_step ho (fun K' hK => h K' (fun a w hS hW => hK a w ⟨hS, hW⟩))
  · exact hs j hj
end
def ZT : Array Value := #[.int .i64 0, .int .u64 0, .slice none 0 0, .slice none 0 0]
/-- A call's result, read apart from the boxes. -/
def ResR (w : World) (bx : Nat → Prop) (t : ST) (o : Option Value) : Prop := ∀ v, o = some v → ∃ ok, TmF w ok t v ∧ ∀ k, ok k → k < w.heap.size ∧ ¬ bx k
/-- A box that was made. -/
def NewR (w : World) (N : Nat) (o : Option Nat) : Prop := ∀ p, o = some p → Blk w p 26 ZT ∧ N ≤ p
def BxR (p8 p9 p10 : Option Nat) (k : Nat) : Prop := p8 = some k ∨ p9 = some k ∨ p10 = some k
/-- What stands while the region goes: the boxes, the rows, and what has come up. -/
def FactR (w0 : World) (x y : ST) (n : Int) (v2 v6 v8 : Option Value) (p8 p9 p10 : Option Nat) (w : World) : Prop :=
  Below w0.heap.size w0 w ∧
  (ResR w (BxR p8 p9 p10) ⟨4, 0, [], [x, y]⟩ v2 ∧ ResR w (BxR p8 p9 p10) ⟨5, n, [], [x, y]⟩ v6 ∧ ResR w (BxR p8 p9 p10) ⟨6, 0, [], [x]⟩ v8) ∧
  (NewR w w0.heap.size p8 ∧ NewR w w0.heap.size p9 ∧ NewR w w0.heap.size p10) ∧
  ((∀ p q, p8 = some p → p9 = some q → p ≠ q) ∧ (∀ p q, p8 = some p → p10 = some q → p ≠ q) ∧ (∀ p q, p9 = some p → p10 = some q → p ≠ q))
section
variable {w0 w w' : World} {x y : ST} {n : Int} {v : Value} {v2 v6 v8 : Option Value} {p8 p9 p10 : Option Nat} {bx bx' : Nat → Prop} {t : ST} {o : Option Value}
theorem ResR.below (h : ResR w bx t o) (hb : Below w.heap.size w w') : ResR w' bx t o := fun v hv => by
  obtain ⟨ok, ⟨A2, c2, A3, c3, rfl, hr⟩, hk⟩ := h v hv
  exact ⟨ok, ⟨A2, c2, A3, c3, rfl, hr.below hb⟩, fun k h => ⟨Nat.lt_of_lt_of_le (hk k h).1 hb.size, (hk k h).2⟩⟩
theorem ResR.more (h : ResR w bx t o) (hx : ∀ k, bx' k → bx k ∨ w.heap.size ≤ k) : ResR w bx' t o := fun v hv => by
  obtain ⟨ok, h1, hk⟩ := h v hv
  exact ⟨ok, h1, fun k h => ⟨(hk k h).1, fun hb => by
    rcases hx k hb with hb | hb
    · exact (hk k h).2 hb
    · have := (hk k h).1; omega⟩⟩
theorem ResR.none : ResR w bx t none := fun v hv => by cases hv
theorem ResR.some (hb : Below w.heap.size w w') {b0 : Nat} (h : TmF w' (fun k => k < b0 ∨ w.heap.size ≤ k) t v) (hx : ∀ k, bx k → b0 ≤ k ∧ k < w.heap.size) : ResR w' bx t (some v) := fun u hu => by
  injection hu with hu
  subst hu
  obtain ⟨A2, c2, A3, c3, rfl, hr⟩ := h
  refine ⟨fun k => (k < b0 ∨ w.heap.size ≤ k) ∧ k < w'.heap.size, ⟨A2, c2, A3, c3, rfl, ⟨⟨hr.1.1, Kd.F_bound hr.1.2⟩, hr.2.1, Kd.F_bound hr.2.2⟩⟩, fun k h => ⟨h.2, fun hb => ?_⟩⟩
  have := hx k hb
  have := h.1
  omega
theorem NewR.below {g : Nat} {p : Option Nat} (h : NewR w g p) (hb : Below w.heap.size w w') : NewR w' g p := fun q hq => ⟨(h q hq).1.below hb, (h q hq).2⟩
theorem NewR.none {g : Nat} : NewR w g none := fun p hp => by cases hp
theorem NewR.new {g : Nat} (h : g ≤ w.heap.size) : NewR (w.alloc (.cells ZT 26)) g (some w.heap.size) := fun q hq => by
  injection hq with hq
  subst hq
  exact ⟨blk_new _ _, h⟩
theorem FactR.below (h : FactR w0 x y n v2 v6 v8 p8 p9 p10 w) (hb : Below w.heap.size w w') : FactR w0 x y n v2 v6 v8 p8 p9 p10 w' := by
  obtain ⟨a1, ⟨e1, e2, e3⟩, ⟨f1, f2, f3⟩, k⟩ := h
  exact ⟨below_step a1 hb, ⟨e1.below hb, e2.below hb, e3.below hb⟩, ⟨f1.below hb, f2.below hb, f3.below hb⟩, k⟩
/-- A box that holds a term. -/
def BoxT (w : World) (p : Nat) (t : ST) : Prop := ∃ A2 c2 A3 c3, Blk w p 26 #[.int .i64 t.f0, .int .u64 t.f1, .slice A2 t.f2.length c2, .slice A3 t.f3.length c3] ∧ RowsT w t A2 c2 A3 c3
theorem BoxT.below {p : Nat} (h : BoxT w p t) (hb : Below w.heap.size w w') : BoxT w' p t := by
  obtain ⟨A2, c2, A3, c3, h1, h2⟩ := h
  exact ⟨A2, c2, A3, c3, h1.below hb, h2.below hb⟩
theorem four_cells {g T : Nat} {a b c d : Value} (h : Blk w g T #[a, b, c, d]) : w.cell? ⟨g, 0, none⟩ = some a ∧ w.cell? ⟨g, 1, none⟩ = some b ∧ w.cell? ⟨g, 2, none⟩ = some c ∧ w.cell? ⟨g, 3, none⟩ = some d := by
  refine ⟨?_, ?_, ?_, ?_⟩ <;> (rw [h.cell]; rfl)
end
theorem lenT_flat {d : List Int} (k n : Int) (h : d.length ≤ 500) : lenT ⟨k, n, d, []⟩ := by
  rw [lenT]
  exact ⟨h, by simp, by rw [lenTs]; trivial⟩
end Go.Proofs.Ytgohmganimamcaa.Term
/- derive.has walked: is a term in a list? -/
namespace Go.Proofs.Ytgohmganimamcaa.Term
set_option linter.unusedVariables false
set_option linter.unusedSimpArgs false
open Go.RowKit Go.Proofs.Ytgohmganimamcaa.Base Go.Proofs.Ytgohmganimamcaa.TlvPlain Go.Proofs.Ytgohmganimamcaa.Lo Go.Proofs.Ytgohmganimamcaa.RdPlain Go.Proofs.Ytgohmganimamcaa.Aid Go.Proofs.Ytgohmganimamcaa.PZ Go.Proofs.YtgohmganimamcaaW.PrintWords Go.Proofs.YtgohmganimamcaaW.PrintLast Go.Proofs.YtgohmganimamcaaW.PrintMore
set_option maxHeartbeats 4000000 in
set_option maxRecDepth 100000 in
theorem has1_c {x t : ST} (hx : wfT x) (ht : wfT t) (g : Nat) (A2 : Option Addr) (c2 : Nat) (A3 : Option Addr) (c3 : Nat) (T2 : Option Addr) (k2 : Nat) (T3 : Option Addr) (k3 : Nat) (W : World) (h : RowsT W x A2 c2 A3 c3) (hr : RowsT W t T2 k2 T3 k3) (hb : Blk W g 26 #[.int .i64 t.f0, .int .u64 t.f1, .slice T2 t.f2.length k2, .slice T3 t.f3.length k3]) :
    Calls Try.prog 77 #[.agg #[.int .i64 x.f0, .int .u64 x.f1, .slice A2 x.f2.length c2, .slice A3 x.f3.length c3], .pointer (some ⟨g, 0, none⟩)] W fun e w' => e = .returned (.bool (eqT x t)) ∧ Below W.heap.size W w' := by
  have hb0 := below_alloc (Below.refl W.heap.size W) (.cells #[.int .i64 x.f0, .int .u64 x.f1, .slice A2 x.f2.length c2, .slice A3 x.f3.length c3] 26)
  have HB := Aside0.mk hb0
  have HC := Aside0.mk (same2_c hx ht (h.below hb0) (hr.below hb0))
  have H0 := Aside0.mk (show Blk (W.alloc (.cells #[.int .i64 x.f0, .int .u64 x.f1, .slice A2 x.f2.length c2, .slice A3 x.f3.length c3] 26)) W.heap.size 26 #[.int .i64 x.f0, .int .u64 x.f1, .slice A2 x.f2.length c2, .slice A3 x.f3.length c3] from blk_new _ _)
  have HT := Aside0.mk (hb.below hb0)
  have hu26 := Try.underlying26
  obtain ⟨x0, x1, x2, x3⟩ := four_cells H0.out
  obtain ⟨t0, t1, t2, t3⟩ := four_cells HT.out
  clear hx ht h hr hb hb0
  go_enter Try.func77, Try.ntmps77
  go_wp2_with (go_at_call 22; refine HC.out.mono ?_; rintro e w1 ⟨rfl, hb⟩; have HB1 := Aside0.mk (below_step HB.out hb); clear hb)
  go_ret
  exact ⟨rfl, HB1.out⟩
theorem take_any {f : ST → Bool} (l : List ST) (i : Nat) (h : i < l.length) : (l.take (i + 1)).any f = ((l.take i).any f || f l[i]) := by
  rw [take_snoc l i h, List.any_append]
  simp
set_option maxHeartbeats 4000000 in
set_option maxRecDepth 100000 in
theorem idxh_c (l : List ST) (hl : ∀ x ∈ l, wfT x) {t : ST} (ht : wfT t) (g : Nat) (A : Option Addr) (c : Nat) (T2 : Option Addr) (k2 : Nat) (T3 : Option Addr) (k3 : Nat) (W : World) (hr : Kd.C k26 W A l.length l) (hc : l.length ≤ c) (htr : RowsT W t T2 k2 T3 k3) (hb : Blk W g 26 #[.int .i64 t.f0, .int .u64 t.f1, .slice T2 t.f2.length k2, .slice T3 t.f3.length k3]) :
    Calls Try.prog 84 #[.slice A l.length c, .func (.func 77) #[] #[.pointer (some ⟨g, 0, none⟩)]] W fun e w' => ∃ r : Int, e = .returned (.int .i64 r) ∧ decide (r ≥ 0) = l.any (fun x => eqT x t) ∧ Below W.heap.size W w' := by
  have HR := Aside0.mk hr
  have HL := Aside0.mk hl
  have HT := Aside0.mk ht
  have HTR := Aside0.mk htr
  have HK := Aside0.mk hb
  have HM := Aside0.mk hr.2.1
  have hu24 := Try.underlying24
  have hu26 := Try.underlying26
  clear hr hl ht htr hb
  go_enter Try.func84, Try.ntmps84
  go_wp2_with (fail)
  go_loopg [8] l.length (fun gf s8 wx => ∃ (i : Nat), s8 = .int .i64 (i : Int) ∧ i + gf = l.length ∧ (l.take i).any (fun x => eqT x t) = false ∧ Below W.heap.size W wx)
  case atStart => exact ⟨0, rfl, by omega, rfl, Below.refl _ _⟩
  case round =>
    obtain ⟨i, rfl, hi, hf, hbl⟩ := hrel
    have HQ := Aside0.mk hi
    have HF := Aside0.mk hf
    have HB := Aside0.mk hbl
    clear hi hf hbl
    by_cases hlt : i < l.length
    · have hl1 : decide ((i : Int) < (l.length : Int)) = true := decide_eq_true (by omega)
      have hw1 : wrap64 ((i : Int) + 1) = ((i + 1 : Nat) : Int) := by rw [Aid.w64 (by omega) (by have := HM.out; omega)]; omega
      obtain ⟨ad, B2, d2, B3, d3, rfl, hx0, hx1, hx2, hx3, hl2, hr2, hl3, hr3⟩ := at_T26 HR.out (i : Int) (by omega) (by omega)
      rw [rd_at l i hlt] at hx0 hx1 hx2 hx3 hl2 hr2 hl3 hr3
      have hbm := HB.out
      replace hx0 := (hbm.cell (World.block_lt_of_cell? _ _ hx0)).trans hx0
      replace hx1 := (hbm.cell (World.block_lt_of_cell? _ _ hx1)).trans hx1
      replace hx2 := (hbm.cell (World.block_lt_of_cell? _ _ hx2)).trans hx2
      replace hx3 := (hbm.cell (World.block_lt_of_cell? _ _ hx3)).trans hx3
      have HC := Aside0.mk (has1_c (HL.out l[i] (List.getElem_mem hlt)) HT.out g B2 d2 B3 d3 T2 k2 T3 k3 wr (RowsT.below (⟨⟨hl2, hr2⟩, hl3, hr3⟩ : RowsT W l[i] B2 d2 B3 d3) hbm) (HTR.out.below hbm) (HK.out.below hbm))
      have HTA := Aside0.mk (take_any (f := fun x => eqT x t) l i hlt)
      have HAL := Aside0.mk (show l.any (fun x => eqT x t) = ((l.take (i + 1)).any (fun x => eqT x t) || (l.drop (i + 1)).any (fun x => eqT x t)) by rw [← List.any_append, List.take_append_drop])
      simp only [Int.toNat_natCast] at hx0 hx1 hx2 hx3
      obtain ⟨y, hy⟩ : ∃ y, l[i] = y := ⟨_, rfl⟩
      rw [hy] at hx0 hx1 hx2 hx3 HC HTA
      clear hbm hl2 hr2 hl3 hr3 hy
      have p1 : (0 : Int) ≤ (i : Int) := by omega
      have p2 : (i : Int) < (l.length : Int) := by omega
      clear hlt
      cases he : eqT y t with
      | true =>
        rw [he] at HC HTA
        clear he
        go_wp2_with (go_at_call 77; refine HC.out.mono ?_; rintro e w1 ⟨rfl, hb⟩; have HB1 := Aside0.mk (below_step HB.out hb); clear hb)
        go_ret
        refine ⟨_, rfl, ?_, HB1.out⟩
        rw [HAL.out, HTA.out, decide_eq_true (by omega)]
        simp
      | false =>
        rw [he] at HC HTA
        clear he
        go_wp2_with (go_at_call 77; refine HC.out.mono ?_; rintro e w1 ⟨rfl, hb⟩; have HB1 := Aside0.mk (below_step HB.out hb); clear hb)
        go_roundg (l.length - (i + 1))
        case measure => have := HQ.out; omega
        case rel => exact ⟨i + 1, by first | rfl | rw [hw1], by omega, by rw [HTA.out, HF.out]; rfl, HB1.out⟩
    · have hl1 : decide ((i : Int) < (l.length : Int)) = false := decide_eq_false (by omega)
      have HE := Aside0.mk (show l.any (fun x => eqT x t) = false by have h := HF.out; rw [List.take_of_length_le (by omega)] at h; exact h)
      go_wp2
      go_ret
      exact ⟨_, rfl, by rw [HE.out]; rfl, HB.out⟩
set_option maxHeartbeats 4000000 in
set_option maxRecDepth 100000 in
theorem anyh_c (l : List ST) (hl : ∀ x ∈ l, wfT x) {t : ST} (ht : wfT t) (g : Nat) (A : Option Addr) (c : Nat) (T2 : Option Addr) (k2 : Nat) (T3 : Option Addr) (k3 : Nat) (W : World) (hr : Kd.C k26 W A l.length l) (hc : l.length ≤ c) (htr : RowsT W t T2 k2 T3 k3) (hb : Blk W g 26 #[.int .i64 t.f0, .int .u64 t.f1, .slice T2 t.f2.length k2, .slice T3 t.f3.length k3]) :
    Calls Try.prog 76 #[.slice A l.length c, .func (.func 77) #[] #[.pointer (some ⟨g, 0, none⟩)]] W fun e w' => e = .returned (.bool (l.any (fun x => eqT x t))) ∧ Below W.heap.size W w' := by
  have HC := Aside0.mk (idxh_c l hl ht g A c T2 k2 T3 k3 W hr hc htr hb)
  clear hr hl ht htr hb
  go_enter Try.func76, Try.ntmps76
  go_wp2_with (go_at_call 84; refine HC.out.mono ?_; rintro e w1 ⟨r, rfl, hr, hb⟩; have HB1 := Aside0.mk hb; have HRR := Aside0.mk hr; clear hb hr)
  go_ret
  exact ⟨by rw [← HRR.out]; rfl, HB1.out⟩
set_option maxHeartbeats 4000000 in
set_option maxRecDepth 100000 in
theorem has_c (l : List ST) (hl : ∀ x ∈ l, wfT x) {t : ST} (ht : wfT t) (A : Option Addr) (c : Nat) (T2 : Option Addr) (k2 : Nat) (T3 : Option Addr) (k3 : Nat) (W : World) (hr : Kd.C k26 W A l.length l) (hc : l.length ≤ c) (htr : RowsT W t T2 k2 T3 k3) :
    Calls Try.prog 57 #[.slice A l.length c, .agg #[.int .i64 t.f0, .int .u64 t.f1, .slice T2 t.f2.length k2, .slice T3 t.f3.length k3]] W fun e w' => e = .returned (.bool (l.any (fun x => eqT x t))) ∧ Below W.heap.size W w' := by
  have hb0 := below_alloc (Below.refl W.heap.size W) (.cells #[.int .i64 t.f0, .int .u64 t.f1, .slice T2 t.f2.length k2, .slice T3 t.f3.length k3] 26)
  have HB := Aside0.mk hb0
  have HC := Aside0.mk (anyh_c l hl ht W.heap.size A c T2 k2 T3 k3 _ (Kd.C_below hr hb0) hc (htr.below hb0) (blk_new _ _))
  have hu26 := Try.underlying26
  clear hr hl ht htr hb0
  go_enter Try.func57, Try.ntmps57
  go_wp2_with (go_at_call 76; refine HC.out.mono ?_; rintro e w1 ⟨rfl, hb⟩; have HB1 := Aside0.mk (below_step HB.out hb); clear hb)
  go_ret
  exact ⟨rfl, HB1.out⟩
end Go.Proofs.Ytgohmganimamcaa.Term
/- derive.Closure's two closures walked: is a term there (Closure$1)? put it, if it is not (Closure$2). -/
namespace Go.Proofs.Ytgohmganimamcaa.Term
set_option linter.unusedVariables false
set_option linter.unusedSimpArgs false
open Go.RowKit Go.Proofs.Ytgohmganimamcaa.Base Go.Proofs.Ytgohmganimamcaa.TlvPlain Go.Proofs.Ytgohmganimamcaa.Lo Go.Proofs.Ytgohmganimamcaa.RdPlain Go.Proofs.Ytgohmganimamcaa.Aid Go.Proofs.Ytgohmganimamcaa.PZ Go.Proofs.YtgohmganimamcaaW.PrintWords Go.Proofs.YtgohmganimamcaaW.PrintLast Go.Proofs.YtgohmganimamcaaW.PrintMore
/-- The terms found so far, in their variable; what they lead to is what came in. -/
def InvD (P : Nat → Prop) (v0 : World) (g : Nat) (W : World) (xs : List ST) : Prop :=
  (v0.heap.size ≤ g ∧ Below v0.heap.size v0 W) ∧ (∀ x ∈ xs, wfT x) ∧ ∃ v rows, Blk W g 24 #[v] ∧ rows.length = xs.length ∧ (Kd.raw 4).R 26 W v0.heap.size (fun k => k ≠ g) v rows ∧ ∀ (j : Nat) (x : ST) (c : List Value), xs[j]? = some x → rows[j]? = some c → Kd.FK k26 v0 (fun k => P k ∧ k < v0.heap.size) x c
theorem InvD.below {P : Nat → Prop} {v0 W W' : World} {g : Nat} {xs : List ST} (h : InvD P v0 g W xs) (hb : Below W.heap.size W W') : InvD P v0 g W' xs := by
  obtain ⟨⟨h0, h1⟩, hw, v, rows, h2, hl, h3, h4⟩ := h
  exact ⟨⟨h0, below_step h1 hb⟩, hw, v, rows, h2.below hb, hl, Kd.R_below h3 hb, h4⟩
/-- As a row of the call's own whose elements share. -/
theorem InvD.n {P : Nat → Prop} {v0 W : World} {g : Nat} {xs : List ST} (h : InvD P v0 g W xs) : ∃ v, Blk W g 24 #[v] ∧ Kd.N k26 26 W v0.heap.size (fun k => ((P k ∧ k < v0.heap.size) ∨ v0.heap.size ≤ k) ∧ k ≠ g) v xs := by
  obtain ⟨⟨h0, h1⟩, hw, v, rows, h2, hl, h3, h4⟩ := h
  refine ⟨v, h2, fun k hk => ⟨.inr (Kd.R_base h3 k hk), h3.1 k hk⟩, rows, hl, Kd.raw_tight h3, fun j x c hx hc => Kd.FK_mono (Kd.FK_step (h4 j x c hx hc) (fun k hk hlt => h1.block k hlt)) (fun k hk => ⟨⟨.inl hk, by have := hk.2; omega⟩, fun e => ?_⟩)⟩
  have := Kd.R_base h3 k e.symm
  omega
theorem InvD.reads {P : Nat → Prop} {v0 W : World} {g : Nat} {xs : List ST} (h : InvD P v0 g W xs) : ∃ A c, Blk W g 24 #[.slice A xs.length c] ∧ xs.length ≤ c ∧ Kd.C k26 W A xs.length xs := by
  obtain ⟨v, h1, h2⟩ := h.n
  obtain ⟨A, c, rfl⟩ := Kd.N_slice h2
  exact ⟨A, c, h1, (Kd.N_reads' h2).2.1, (Kd.N_reads' h2).2.2⟩
set_option maxHeartbeats 4000000 in
set_option maxRecDepth 100000 in
theorem there_c {P : Nat → Prop} {v0 W : World} {g : Nat} {xs : List ST} (h : InvD P v0 g W xs) {t : ST} (ht : wfT t) (T2 : Option Addr) (k2 : Nat) (T3 : Option Addr) (k3 : Nat) (hr : RowsT W t T2 k2 T3 k3) :
    Calls Try.prog 56 #[.agg #[.int .i64 t.f0, .int .u64 t.f1, .slice T2 t.f2.length k2, .slice T3 t.f3.length k3], .pointer (some ⟨g, 0, none⟩)] W fun e w' => e = .returned (.bool (xs.any (fun x => eqT x t))) ∧ Below W.heap.size W w' := by
  obtain ⟨A, c, hg, hc, hC⟩ := h.reads
  have hb0 := below_alloc (Below.refl W.heap.size W) (.cells #[.int .i64 t.f0, .int .u64 t.f1, .slice T2 t.f2.length k2, .slice T3 t.f3.length k3] 26)
  have HB := Aside0.mk hb0
  have H0 := Aside0.mk (show Blk (W.alloc (.cells #[.int .i64 t.f0, .int .u64 t.f1, .slice T2 t.f2.length k2, .slice T3 t.f3.length k3] 26)) W.heap.size 26 #[.int .i64 t.f0, .int .u64 t.f1, .slice T2 t.f2.length k2, .slice T3 t.f3.length k3] from blk_new _ _)
  have HG := Aside0.mk (hg.below hb0)
  have HC := Aside0.mk (has_c xs h.2.1 ht A c T2 k2 T3 k3 _ (Kd.C_below hC hb0) hc (hr.below hb0))
  have hu26 := Try.underlying26
  obtain ⟨x0, x1, x2, x3⟩ := four_cells H0.out
  have y0 := HG.out.cell 0
  simp only [List.getElem?_toArray, List.getElem?_cons_zero] at y0
  clear h ht hr hg hC hb0
  go_enter Try.func56, Try.ntmps56
  go_wp2_with (go_at_call 57; refine HC.out.mono ?_; rintro e w1 ⟨rfl, hb⟩; have HB1 := Aside0.mk (below_step HB.out hb); clear hb)
  go_ret
  exact ⟨rfl, HB1.out⟩
section
variable {P : Program} {ops : Array Oper} {rest : List Oper} {o : Oper} {a : Act} {Q : Exit → Act → World → Prop} {Kc : Act → World → Prop} {α : Type}
/-- Kd.R_append_step where the region has drawn. -/
theorem r_append_drew (d : Kd α) {w0 W : World} (base : Nat) (hw : Region.wanted o (yielded ops a.tmps) = true) (s x : Operand) (t e : TypeId) (z : Value) (bytes : Nat)
    (ho : o.op = .call { callee := .builtin .append, args := #[s, x], argTypes := #[t, t] })
    (ht : P.underlying t = some (.slice e)) (hinfo : (P.info? e).map (fun i => (i.zero, i.size, i.bytes)) = some (some z, d.sz, bytes)) (hz : z.cells.size = d.sz) (hs0 : 0 < d.sz) (hb0 : 0 < bytes)
    (v : Value) (xs : List α) (p : α) (cs : List Value) (ok okp : Nat → Prop) (hs : a.eval s = v) (hx : a.eval x = .slice (some ⟨W.heap.size, 0, none⟩) 1 1) (hp : d.M W.drew base okp p cs) (hokp : ∀ k, okp k → ok k ∧ some k ≠ v.ownBlock) (hfresh : ∀ k, W.heap.size ≤ k → ok k)
    (HO : d.R e W base ok v xs) (HB : Below base w0 W) (hbase : base ≤ W.heap.size) (hl : (xs.length + 1) * bytes ≤ 140737488355328)
    (h : ∀ v1 w1, d.R e w1 base ok v1 (xs ++ [p]) → Below base w0 w1 → W.drew.grownBy w1 v.ownBlock → (v1.ownBlock = v.ownBlock ∨ ∃ b, v1.ownBlock = some b ∧ W.heap.size ≤ b) → Kc (a.put o.dst v1) w1) :
    if Region.wanted o (yielded ops a.tmps) = true then Oper.wp P o a (W.alloc (.cells cs.toArray e)).drew Kc Q else Kc (a.put o.dst undef) (W.alloc (.cells cs.toArray e)).drew :=
  Kd.R_append_step d (w0 := w0) (W := W.drew) base hw s x t e z bytes ho ht hinfo hz hs0 hb0 v xs p cs ok okp hs hx hp hokp hfresh (Kd.R_drew HO) (below_drew1 HB) hbase hl h
end
def zC : List Value := [.int .i64 0, .int .u64 0, .slice none 0 0, .slice none 0 0]
def tC (t : ST) (T2 : Option Addr) (k2 : Nat) (T3 : Option Addr) (k3 : Nat) : List Value := [.int .i64 t.f0, .int .u64 t.f1, .slice T2 t.f2.length k2, .slice T3 t.f3.length k3]
/-- A row of cells of the call's own: its last element written whole. -/
theorem r_put {W : World} {base g n c : Nat} {ok : Nat → Prop} {rows : List (List Value)} {z cells : List Value} (h : (Kd.raw 4).R 26 W base ok (.slice (some ⟨g, 0, none⟩) n c) (rows ++ [z])) (hn : n = rows.length + 1) (hc : cells.length = 4 ∧ ∀ u ∈ cells, u.oneCell' = true) :
    (Kd.raw 4).R 26 (W.setCells g (rows.length * 4) cells) base ok (.slice (some ⟨g, 0, none⟩) n c) (rows ++ [cells]) ∧ W.grownBy (W.setCells g (rows.length * 4) cells) (some g) := by
  have hC := (Kd.R_reads' h).2.2
  obtain ⟨ad, ce, he, hcel, hK, hcc⟩ := Kd.C_get hC z (rows.length : Int) (by omega) (by simp; omega)
  injection he with he
  subst he
  have hcc2 : ∀ j u, ce[j]? = some u → W.cell? ⟨g, (rows.length : Int).toNat * 4 + j, none⟩ = some u := fun j u hu => by
    have h1 := hcc j u hu
    rw [add_at, Nat.zero_add] at h1
    exact h1
  obtain ⟨h1, h2⟩ := Kd.R_seg h (rows.length : Int) (by omega) (by omega) (c := ce) (seg := cells) (j := 0) hcel hcc2 (by rw [hc.1]; exact Nat.le_refl _) (x' := cells) (okp := fun _ => False) (by
    have h3 : ce.drop cells.length = [] := by apply List.drop_eq_nil_of_le; rw [hc.1]; exact Nat.le_of_eq hcel
    rw [Nat.zero_add, h3, List.append_nil, List.take_zero, List.nil_append]
    exact ⟨rfl, hc.1, hc.2⟩) (fun _ h => h.elim)
  have hs : (rows ++ [z]).set (rows.length : Int).toNat cells = rows ++ [cells] := by simp
  rw [hs] at h1
  exact ⟨h1, h2⟩
def putD (xs : List ST) (t : ST) : List ST := if xs.any (fun x => eqT x t) = true then xs else xs ++ [t]
theorem inv_dA {P : Nat → Prop} {v0 W : World} {g g1 c1 : Nat} {xs : List ST} {rows : List (List Value)} {x : ST} {u : Value} {A2 A3 : Option Addr} {c2 c3 : Nat} (hg : v0.heap.size ≤ g) (hB : Below v0.heap.size v0 W) (h5 : Blk W g 24 #[u]) (hO : (Kd.raw 4).R 26 W v0.heap.size (fun k => k ≠ g) (.slice (some ⟨g1, 0, none⟩) (rows ++ [zC]).length c1) (rows ++ [zC])) (hl : rows.length = xs.length) (hf : ∀ (j : Nat) (x : ST) (c : List Value), xs[j]? = some x → rows[j]? = some c → Kd.FK k26 v0 (fun k => P k ∧ k < v0.heap.size) x c) (hw : ∀ x ∈ xs, wfT x) (hwx : wfT x) (hx : RowsF v0 (fun k => P k ∧ k < v0.heap.size) x A2 c2 A3 c3) {kb Tb : Nat} {csb : Array Value} (hkb : Blk W kb Tb csb) (hkg : kb ≠ g) (hk1 : kb ≠ g1) :
    InvD P v0 g (((((W.setCell ⟨g1, rows.length * 4, none⟩ (.int .i64 x.f0)).setCell ⟨g1, rows.length * 4 + 1, none⟩ (.int .u64 x.f1)).setCell ⟨g1, rows.length * 4 + 2, none⟩ (.slice A2 x.f2.length c2)).setCell ⟨g1, rows.length * 4 + 3, none⟩ (.slice A3 x.f3.length c3)).setCell ⟨g, 0, none⟩ (.slice (some ⟨g1, 0, none⟩) (rows.length + 1) c1)) (xs ++ [x]) ∧ Blk (((((W.setCell ⟨g1, rows.length * 4, none⟩ (.int .i64 x.f0)).setCell ⟨g1, rows.length * 4 + 1, none⟩ (.int .u64 x.f1)).setCell ⟨g1, rows.length * 4 + 2, none⟩ (.slice A2 x.f2.length c2)).setCell ⟨g1, rows.length * 4 + 3, none⟩ (.slice A3 x.f3.length c3)).setCell ⟨g, 0, none⟩ (.slice (some ⟨g1, 0, none⟩) (rows.length + 1) c1)) kb Tb csb := by
  refine ⟨?_, blk_far (blk_far (blk_far (blk_far (blk_far hkb (by dsimp only; omega) _) (by dsimp only; omega) _) (by dsimp only; omega) _) (by dsimp only; omega) _) (by dsimp only; omega) _⟩
  have hb1 : v0.heap.size ≤ g1 := Kd.R_base hO g1 (by simp [Value.ownBlock])
  have hne : g1 ≠ g := hO.1 g1 (by simp [Value.ownBlock])
  have hct : (tC x A2 c2 A3 c3).length = 4 ∧ ∀ u ∈ tC x A2 c2 A3 c3, u.oneCell' = true := ⟨rfl, by simp [tC, Value.oneCell']⟩
  have hwa : ∀ y ∈ xs ++ [x], wfT y := fun y hy => by
    rcases List.mem_append.1 hy with hy | hy
    · exact hw y hy
    · rw [List.mem_singleton.1 hy]; exact hwx
  have hfa : ∀ (j : Nat) (y : ST) (c : List Value), (xs ++ [x])[j]? = some y → (rows ++ [tC x A2 c2 A3 c3])[j]? = some c → Kd.FK k26 v0 (fun k => P k ∧ k < v0.heap.size) y c := fun j y c hy hc => by
    rcases Nat.lt_or_ge j xs.length with hlt | hge
    · rw [List.getElem?_append_left hlt] at hy
      rw [List.getElem?_append_left (by omega)] at hc
      exact hf j y c hy hc
    · rw [List.getElem?_append_right hge] at hy
      rw [List.getElem?_append_right (by omega), hl] at hc
      obtain ⟨i, hi⟩ : ∃ i, j - xs.length = i := ⟨_, rfl⟩
      rw [hi] at hy hc
      rcases i with _ | i
      · simp only [List.getElem?_cons_zero, Option.some.injEq] at hy hc
        subst hy hc
        exact hx.fk
      · simp at hy
  show InvD P v0 g ((W.setCells g1 (rows.length * 4) (tC x A2 c2 A3 c3)).setCell ⟨g, 0, none⟩ (.slice (some ⟨g1, 0, none⟩) (rows.length + 1) c1)) (xs ++ [x])
  obtain ⟨h1, h2⟩ := r_put hO (by simp) hct
  have hB1 : Below v0.heap.size v0 (W.setCells g1 (rows.length * 4) (tC x A2 c2 A3 c3)) := below_set (below_set (below_set (below_set hB hb1) hb1) hb1) hb1
  have h51 : Blk (W.setCells g1 (rows.length * 4) (tC x A2 c2 A3 c3)) g 24 #[u] := blk_grown h5 h2 (fun e => hne (by injection e with e; exact e.symm))
  refine ⟨⟨hg, below_set hB1 hg⟩, hwa, _, rows ++ [tC x A2 c2 A3 c3], by have h := blk_set h51 0 (.slice (some ⟨g1, 0, none⟩) (rows.length + 1) c1); simpa [Blk] using h, by rw [List.length_append, List.length_append, hl]; rfl, ?_, hfa⟩
  rw [show (rows ++ [zC]).length = rows.length + 1 by simp] at h1
  exact Kd.R_far h1 (fun k hk => hk) _
theorem inv_dB {P : Nat → Prop} {v0 W : World} {g g1 c1 : Nat} {xs : List ST} {rows : List (List Value)} {x : ST} {u : Value} {A2 A3 : Option Addr} {c2 c3 : Nat} (hg : v0.heap.size ≤ g) (hB : Below v0.heap.size v0 W) (h5 : Blk W g 24 #[u]) (hO : (Kd.raw 4).R 26 W v0.heap.size (fun k => k ≠ g) (.slice (some ⟨g1, 0, none⟩) (rows ++ [zC]).length c1) (rows ++ [zC])) (hl : rows.length = xs.length) (hf : ∀ (j : Nat) (x : ST) (c : List Value), xs[j]? = some x → rows[j]? = some c → Kd.FK k26 v0 (fun k => P k ∧ k < v0.heap.size) x c) (hw : ∀ x ∈ xs, wfT x) (hwx : wfT x) (hx : RowsF v0 (fun k => P k ∧ k < v0.heap.size) x A2 c2 A3 c3) {kb Tb : Nat} {csb : Array Value} (hkb : Blk W kb Tb csb) (hkg : kb ≠ g) (hk1 : kb ≠ g1) :
    InvD P v0 g (((((W.setCell ⟨g, 0, none⟩ (.slice (some ⟨g1, 0, none⟩) (rows.length + 1) c1)).setCell ⟨g1, rows.length * 4, none⟩ (.int .i64 x.f0)).setCell ⟨g1, rows.length * 4 + 1, none⟩ (.int .u64 x.f1)).setCell ⟨g1, rows.length * 4 + 2, none⟩ (.slice A2 x.f2.length c2)).setCell ⟨g1, rows.length * 4 + 3, none⟩ (.slice A3 x.f3.length c3)) (xs ++ [x]) ∧ Blk (((((W.setCell ⟨g, 0, none⟩ (.slice (some ⟨g1, 0, none⟩) (rows.length + 1) c1)).setCell ⟨g1, rows.length * 4, none⟩ (.int .i64 x.f0)).setCell ⟨g1, rows.length * 4 + 1, none⟩ (.int .u64 x.f1)).setCell ⟨g1, rows.length * 4 + 2, none⟩ (.slice A2 x.f2.length c2)).setCell ⟨g1, rows.length * 4 + 3, none⟩ (.slice A3 x.f3.length c3)) kb Tb csb := by
  refine ⟨?_, blk_far (blk_far (blk_far (blk_far (blk_far hkb (by dsimp only; omega) _) (by dsimp only; omega) _) (by dsimp only; omega) _) (by dsimp only; omega) _) (by dsimp only; omega) _⟩
  have hb1 : v0.heap.size ≤ g1 := Kd.R_base hO g1 (by simp [Value.ownBlock])
  have hne : g1 ≠ g := hO.1 g1 (by simp [Value.ownBlock])
  have hct : (tC x A2 c2 A3 c3).length = 4 ∧ ∀ u ∈ tC x A2 c2 A3 c3, u.oneCell' = true := ⟨rfl, by simp [tC, Value.oneCell']⟩
  have hwa : ∀ y ∈ xs ++ [x], wfT y := fun y hy => by
    rcases List.mem_append.1 hy with hy | hy
    · exact hw y hy
    · rw [List.mem_singleton.1 hy]; exact hwx
  have hfa : ∀ (j : Nat) (y : ST) (c : List Value), (xs ++ [x])[j]? = some y → (rows ++ [tC x A2 c2 A3 c3])[j]? = some c → Kd.FK k26 v0 (fun k => P k ∧ k < v0.heap.size) y c := fun j y c hy hc => by
    rcases Nat.lt_or_ge j xs.length with hlt | hge
    · rw [List.getElem?_append_left hlt] at hy
      rw [List.getElem?_append_left (by omega)] at hc
      exact hf j y c hy hc
    · rw [List.getElem?_append_right hge] at hy
      rw [List.getElem?_append_right (by omega), hl] at hc
      obtain ⟨i, hi⟩ : ∃ i, j - xs.length = i := ⟨_, rfl⟩
      rw [hi] at hy hc
      rcases i with _ | i
      · simp only [List.getElem?_cons_zero, Option.some.injEq] at hy hc
        subst hy hc
        exact hx.fk
      · simp at hy
  show InvD P v0 g ((W.setCell ⟨g, 0, none⟩ (.slice (some ⟨g1, 0, none⟩) (rows.length + 1) c1)).setCells g1 (rows.length * 4) (tC x A2 c2 A3 c3)) (xs ++ [x])
  have hBs := below_set (j := 0) (v := (.slice (some ⟨g1, 0, none⟩) (rows.length + 1) c1)) hB hg
  have h5s : Blk (W.setCell ⟨g, 0, none⟩ (.slice (some ⟨g1, 0, none⟩) (rows.length + 1) c1)) g 24 #[.slice (some ⟨g1, 0, none⟩) (rows.length + 1) c1] := by have h := blk_set h5 0 (.slice (some ⟨g1, 0, none⟩) (rows.length + 1) c1); simpa [Blk] using h
  have hOs := Kd.R_far (p := ⟨g, 0, none⟩) hO (fun k hk => hk) (.slice (some ⟨g1, 0, none⟩) (rows.length + 1) c1)
  obtain ⟨h1, h2⟩ := r_put hOs (by simp) hct
  have h51 := blk_grown h5s h2 (fun e => hne (by injection e with e; exact e.symm))
  refine ⟨⟨hg, below_set (below_set (below_set (below_set hBs hb1) hb1) hb1) hb1⟩, hwa, _, rows ++ [tC x A2 c2 A3 c3], h51, by rw [List.length_append, List.length_append, hl]; rfl, ?_, hfa⟩
  rw [show (rows ++ [zC]).length = rows.length + 1 by simp] at h1
  exact h1
end Go.Proofs.Ytgohmganimamcaa.Term
/- derive.Closure's 'put' walked (Closure$2). -/
namespace Go.Proofs.Ytgohmganimamcaa.Term
set_option linter.unusedVariables false
set_option linter.unusedSimpArgs false
open Go.RowKit Go.Proofs.Ytgohmganimamcaa.Base Go.Proofs.Ytgohmganimamcaa.TlvPlain Go.Proofs.Ytgohmganimamcaa.Lo Go.Proofs.Ytgohmganimamcaa.RdPlain Go.Proofs.Ytgohmganimamcaa.Aid Go.Proofs.Ytgohmganimamcaa.PZ Go.Proofs.YtgohmganimamcaaW.PrintWords Go.Proofs.YtgohmganimamcaaW.PrintLast Go.Proofs.YtgohmganimamcaaW.PrintMore
def thereV (g : Nat) : Value := .func (.func 56) #[] #[.pointer (some ⟨g, 0, none⟩)]
set_option maxHeartbeats 8000000 in
set_option maxRecDepth 100000 in
theorem put2_c {P : Nat → Prop} {v0 W : World} {g g6 : Nat} {xs : List ST} {x : ST} (h : InvD P v0 g W xs) (h6 : Blk W g6 37 #[thereV g]) {A2 A3 : Option Addr} {c2 c3 : Nat} (hx : RowsF v0 (fun k => P k ∧ k < v0.heap.size) x A2 c2 A3 c3) (hw : wfT x) (hl : xs.length ≤ 1000000) :
    Calls Try.prog 58 #[.agg #[.int .i64 x.f0, .int .u64 x.f1, .slice A2 x.f2.length c2, .slice A3 x.f3.length c3], .pointer (some ⟨g6, 0, none⟩), .pointer (some ⟨g, 0, none⟩)] W fun e w' => e = .returned (.tuple #[]) ∧ InvD P v0 g w' (putD xs x) ∧ Blk w' g6 37 #[thereV g] := by
  have hI := h
  obtain ⟨⟨h0, h1⟩, hwf, v, rows, hg, hlr, hR, hfk⟩ := h
  obtain ⟨A9, c9, rfl⟩ : ∃ A c, v = .slice A rows.length c := Kd.R_slice hR
  have hb0 := below_alloc (Below.refl W.heap.size W) (.cells #[.int .i64 x.f0, .int .u64 x.f1, .slice A2 x.f2.length c2, .slice A3 x.f3.length c3] 26)
  have hxb : RowsT (W.alloc (.cells #[.int .i64 x.f0, .int .u64 x.f1, .slice A2 x.f2.length c2, .slice A3 x.f3.length c3] 26)) x A2 c2 A3 c3 := (hx.below (below_step h1 hb0)).now
  have HGL := Aside0.mk (And.intro h0 hl)
  have HX := Aside0.mk hx
  have HW := Aside0.mk (And.intro hw hwf)
  have HFK := Aside0.mk hfk
  have HLR := Aside0.mk hlr
  have HOW := Aside0.mk (show some W.heap.size ≠ (Value.slice A9 rows.length c9).ownBlock from fun e => Nat.lt_irrefl _ (Kd.R_lt hR _ e.symm))
  have HNE6 := Aside0.mk (show some g6 ≠ (Value.slice A9 rows.length c9).ownBlock from Kd.R_ne hR h6 (by decide))
  have HG6 := Aside0.mk (show g6 ≠ g from fun e => by subst e; unfold Blk at h6 hg; rw [h6] at hg; simp at hg)
  have HT := Aside0.mk (there_c (hI.below hb0) hw A2 c2 A3 c3 hxb)
  have HB := Aside0.mk (below_step h1 hb0)
  have HG := Aside0.mk (hg.below hb0)
  have H6 := Aside0.mk (h6.below hb0)
  have HR := Aside0.mk (Kd.R_below hR hb0)
  have HI := Aside0.mk (hI.below hb0)
  have H0 := Aside0.mk (show Blk (W.alloc (.cells #[.int .i64 x.f0, .int .u64 x.f1, .slice A2 x.f2.length c2, .slice A3 x.f3.length c3] 26)) W.heap.size 26 #[.int .i64 x.f0, .int .u64 x.f1, .slice A2 x.f2.length c2, .slice A3 x.f3.length c3] from blk_new _ _)
  have hu26 := Try.underlying26
  have hu24 := Try.underlying24
  obtain ⟨x0, x1, x2, x3⟩ := four_cells H0.out
  have y0 := H6.out.cell 0
  simp only [List.getElem?_toArray, List.getElem?_cons_zero, thereV] at y0
  clear h0 h1 hwf hg hlr hR hfk hb0 hxb hx hw hl hI h6
  unfold putD
  cases hq : xs.any (fun y => eqT y x) with
  | true =>
    rw [hq] at HT
    go_enter Try.func58, Try.ntmps58
    go_wp2_with (go_at_call 56; refine HT.out.mono ?_; rintro e w1 ⟨rfl, hb⟩; have HI1 := Aside0.mk (HI.out.below hb); have H61 := Aside0.mk (H6.out.below hb); clear hb)
    go_end0
    exact ⟨rfl, HI1.out, H61.out⟩
  | false =>
    rw [hq] at HT
    rw [if_neg (by decide)]
    go_enter Try.func58, Try.ntmps58
    go_upto_region 2 with (go_at_call 56; refine HT.out.mono ?_; rintro e w1 ⟨rfl, hb⟩; have HB1 := Aside0.mk (below_step HB.out hb); have HG1 := Aside0.mk (HG.out.below hb); have H61 := Aside0.mk (H6.out.below hb); have HR1 := Aside0.mk (Kd.R_below HR.out hb); have H01 := Aside0.mk (H0.out.below hb); clear x0 x1 x2 x3 y0 hb)
    clear HT HB HG H6 HR HI H0 hq
    have q5 := HG1.out.cell 0
    obtain ⟨x0, x1, x2, x3⟩ := four_cells H01.out
    have q5a := fun o => (HG1.out.alloc o).cell 0
    have x0a := fun o => (H01.out.alloc o).cell 0
    have x1a := fun o => (H01.out.alloc o).cell 1
    have x2a := fun o => (H01.out.alloc o).cell 2
    have x3a := fun o => (H01.out.alloc o).cell 3
    simp only [List.getElem?_toArray, List.getElem?_cons_zero, List.getElem?_cons_succ] at q5 q5a x0a x1a x2a x3a
    go_region_law (first
      | (go_must (refine r_append_drew (Kd.raw 4) (w0 := v0) v0.heap.size rfl (.tmp 8) (.tmp 11) 24 26 (.agg #[(.int .i64 0), (.int .u64 0), (.slice none 0 0), (.slice none 0 0)]) 64 rfl hu24 info26 rfl (by decide) (by omega) (.slice A9 rows.length c9) rows zC zC (fun k => k ≠ g) (fun _ => False) rfl rfl ⟨rfl, rfl, by simp [zC, Value.oneCell']⟩ (fun _ h => h.elim) (fun k hk => by have := HG1.out.lt; omega) HR1.out HB1.out HB1.out.size (by have := HGL.out.2; have := HLR.out; omega) ?_); intro v1 w2 ho hb hg hat
         have hn1 : (rows ++ [zC]).length = rows.length + 1 := by simp
         obtain ⟨g1, c1, rfl, hg1, hg1l, cur, hcl1⟩ := Kd.R_form ho (by rw [hn1]; omega)
         have H51 := Aside0.mk (show Blk w2 g 24 #[.slice A9 rows.length c9] from blk_grown (HG1.out.below (below_drew1 (Below.refl _ _))) hg (Kd.R_ne HR1.out HG1.out (by decide)))
         obtain ⟨ad, ce, hade, hcel, hcf, hcc⟩ := Kd.C_get (Kd.R_reads' ho).2.2 zC (rows.length : Int) (by omega) (by rw [hn1]; omega)
         injection hade with hade
         subst hade
         have hcz : (rows ++ [zC]).getD (rows.length : Int).toNat zC = zC := by simp
         rw [hcz] at hcf
         obtain ⟨rfl, _, _⟩ := hcf
         have y0 : w2.cell? ⟨g1, rows.length * 4, none⟩ = some (.int .i64 0) := by have h := hcc 0 _ rfl; rw [add_at, Nat.zero_add] at h; exact h
         have y1 : w2.cell? ⟨g1, rows.length * 4 + 1, none⟩ = some (.int .u64 0) := by have h := hcc 1 _ rfl; rw [add_at, Nat.zero_add] at h; exact h
         have y2 : w2.cell? ⟨g1, rows.length * 4 + 2, none⟩ = some (.slice none 0 0) := by have h := hcc 2 _ rfl; rw [add_at, Nat.zero_add] at h; exact h
         have y3 : w2.cell? ⟨g1, rows.length * 4 + 3, none⟩ = some (.slice none 0 0) := by have h := hcc 3 _ rfl; rw [add_at, Nat.zero_add] at h; exact h
         have HON := Aside0.mk ho; have HB2 := Aside0.mk hb
         have f0 := blk_frozen hcl1 (rows.length * 4); have f1 := blk_frozen hcl1 (rows.length * 4 + 1); have f2 := blk_frozen hcl1 (rows.length * 4 + 2); have f3 := blk_frozen hcl1 (rows.length * 4 + 3)
         have HX1 := Aside0.mk (show Blk w2 W.heap.size 26 #[.int .i64 x.f0, .int .u64 x.f1, .slice A2 x.f2.length c2, .slice A3 x.f3.length c3] from blk_grown (H01.out.below (below_drew1 (Below.refl _ _))) hg HOW.out)
         have HK6 := Aside0.mk (show Blk w2 g6 37 #[thereV g] from blk_grown (H61.out.below (below_drew1 (Below.refl _ _))) hg HNE6.out)
         have hkg1 : g6 ≠ g1 := by
           intro e
           rcases hat with hat | ⟨b, hbb, hle⟩
           · exact HNE6.out (by rw [← hat, e]; simp [Value.ownBlock])
           · have h1 := H61.out.lt
             simp only [Value.ownBlock, Option.some.injEq] at hbb
             omega
         obtain ⟨xb0, xb1, xb2, xb3⟩ := four_cells HX1.out
         have p5 := H51.out.cell 0; have pf := blk_frozen H51.out 0
         simp only [List.getElem?_toArray, List.getElem?_cons_zero, List.getElem?_cons_succ] at p5
         rw [hn1]
         have hgne : g1 ≠ g := ho.1 g1 (by simp [Value.ownBlock])
         have hlx : (rows.length : Int) < (rows.length : Int) + 1 := by omega
         clear ho hb hg hat hcl1 hcc hcel hcz hg1 hg1l hn1))
    all_goals
      go_wp2_with (fail)
      go_end0
      refine ⟨rfl, ?_⟩
      first
        | with_reducible exact inv_dB HGL.out.1 HB2.out H51.out HON.out HLR.out HFK.out HW.out.2 HW.out.1 HX.out HK6.out HG6.out hkg1
        | with_reducible exact inv_dA HGL.out.1 HB2.out H51.out HON.out HLR.out HFK.out HW.out.2 HW.out.1 HX.out HK6.out HG6.out hkg1
end Go.Proofs.Ytgohmganimamcaa.Term
/- derive.gives walked: what a term that is there gives. -/
namespace Go.Proofs.Ytgohmganimamcaa.Term
set_option linter.unusedVariables false
set_option linter.unusedSimpArgs false
open Go.RowKit Go.Proofs.Ytgohmganimamcaa.Base Go.Proofs.Ytgohmganimamcaa.TlvPlain Go.Proofs.Ytgohmganimamcaa.Lo Go.Proofs.Ytgohmganimamcaa.RdPlain Go.Proofs.Ytgohmganimamcaa.Aid Go.Proofs.Ytgohmganimamcaa.PZ Go.Proofs.YtgohmganimamcaaW.PrintWords Go.Proofs.YtgohmganimamcaaW.PrintLast Go.Proofs.YtgohmganimamcaaW.PrintMore
/-- What a term gives, if others are there. -/
def giveL (xs : List ST) (t : ST) : List ST := if t.f0 = 4 then t.f3 else if t.f0 = 5 ∧ xs.any (fun y => eqT y (t.f3.getD 1 z_T)) = true then t.f3.take 1 else []
/-- A row of terms that came in. -/
def LsG (P : Nat → Prop) (v0 : World) (l : List ST) (v : Value) : Prop := ∃ A c, v = .slice A l.length c ∧ l.length ≤ c ∧ Kd.F k26 v0 (fun k => P k ∧ k < v0.heap.size) A l.length l
theorem f_take1 {v0 : World} {ok : Nat → Prop} {A : Option Addr} {l : List ST} (h : Kd.F k26 v0 ok A l.length l) (hl : 1 ≤ l.length) : Kd.F k26 v0 ok A (l.take 1).length (l.take 1) := Kd.F_imp h (fun W' hC => by
  have h1 : (l.take 1).length = 1 := by rw [List.length_take]; omega
  refine ⟨rfl, by rw [h1]; decide, fun _ => ?_⟩
  obtain ⟨ad, rfl, hc⟩ := hC.2.2 (by omega)
  refine ⟨ad, rfl, fun j p hj => hc j p ?_⟩
  rw [List.getElem?_take] at hj
  split at hj
  · exact hj
  · cases hj)
set_option maxHeartbeats 8000000 in
set_option maxRecDepth 100000 in
theorem gives_c {P : Nat → Prop} {v0 W : World} {g : Nat} {xs : List ST} (h : InvD P v0 g W xs) {t : ST} (hw : wfT t) (hk : t.f0 = 5 → 2 ≤ t.f3.length) {A2 A3 : Option Addr} {c2 c3 : Nat} (hx : RowsF v0 (fun k => P k ∧ k < v0.heap.size) t A2 c2 A3 c3) :
    Calls Try.prog 59 #[.agg #[.int .i64 t.f0, .int .u64 t.f1, .slice A2 t.f2.length c2, .slice A3 t.f3.length c3], thereV g] W fun e w' => ∃ v, e = .returned v ∧ LsG P v0 (giveL xs t) v ∧ Below W.heap.size W w' := by
  have hv0 := h.1.2
  have hb0 := below_alloc (Below.refl W.heap.size W) (.cells #[.int .i64 t.f0, .int .u64 t.f1, .slice A2 t.f2.length c2, .slice A3 t.f3.length c3] 26)
  have HB := Aside0.mk hb0
  have H0 := Aside0.mk (show Blk (W.alloc (.cells #[.int .i64 t.f0, .int .u64 t.f1, .slice A2 t.f2.length c2, .slice A3 t.f3.length c3] 26)) W.heap.size 26 #[.int .i64 t.f0, .int .u64 t.f1, .slice A2 t.f2.length c2, .slice A3 t.f3.length c3] from blk_new _ _)
  have hu26 := Try.underlying26
  have hu24 := Try.underlying24
  obtain ⟨x0, x1, x2, x3⟩ := four_cells H0.out
  have HX := Aside0.mk hx
  unfold giveL thereV
  by_cases c4 : t.f0 = 4
  · have z4 : (t.f0 == 4) = true := by simp [c4]
    rw [if_pos c4]
    clear h hw hk hx hv0 hb0 c4
    go_enter Try.func59, Try.ntmps59
    go_wp2_with (fail)
    go_ret
    exact ⟨_, rfl, ⟨A3, c3, rfl, HX.out.2.1, HX.out.2.2⟩, HB.out⟩
  · have z4 : (t.f0 == 4) = false := by simp [c4]
    rw [if_neg c4]
    by_cases c5 : t.f0 = 5
    · have z5 : (t.f0 == 5) = true := by simp [c5]
      have hlen := hk c5
      obtain ⟨ad, B2, d2, B3, d3, rfl, hrw, k0, k1, k2, k3⟩ := at_F hx.2.2 1 (by omega)
      have hgd : t.f3.getD 1 z_T = t.f3[1] := by simp [List.getD_eq_getElem?_getD, List.getElem?_eq_getElem (show 1 < t.f3.length by omega)]
      have hbm := below_step hv0 hb0
      replace k0 := (hbm.cell (World.block_lt_of_cell? _ _ k0)).trans k0
      replace k1 := (hbm.cell (World.block_lt_of_cell? _ _ k1)).trans k1
      replace k2 := (hbm.cell (World.block_lt_of_cell? _ _ k2)).trans k2
      replace k3 := (hbm.cell (World.block_lt_of_cell? _ _ k3)).trans k3
      simp only [Nat.one_mul] at k0 k1 k2 k3
      have kz := k0
      have e4 : ad.add 4 = ⟨ad.block, ad.off + 4, none⟩ := by simp [Addr.add]
      rw [e4] at k0 k1 k2 k3
      clear e4
      have hwk : wfT t.f3[1] := ((wfT_eq t).1 hw).2.2 _ (List.getElem_mem (by omega))
      have HT := Aside0.mk (there_c (h.below hb0) hwk B2 d2 B3 d3 (hrw.below hbm).now)
      rw [hgd]
      obtain ⟨y, hy⟩ : ∃ y, t.f3[1] = y := ⟨_, rfl⟩
      rw [hy] at kz k0 k1 k2 k3 HT ⊢
      have HLN := Aside0.mk hlen
      have p2 : (1 : Int) < (t.f3.length : Int) := by omega
      clear h hw hk hx hv0 hb0 hrw hgd hbm hwk hy hlen
      cases hq : xs.any (fun z => eqT z y) with
      | true =>
        rw [hq] at HT
        rw [if_pos ⟨c5, rfl⟩]
        clear c4 c5
        have p3 : (1 : Int) ≤ (c3 : Int) := by have := HLN.out; have := HX.out.2.1; omega
        go_enter Try.func59, Try.ntmps59
        go_wp2_with (go_at_call 56; refine HT.out.mono ?_; rintro e w1 ⟨rfl, hb⟩; have HB1 := Aside0.mk (below_step HB.out hb); obtain ⟨x0, x1, x2, x3⟩ := four_cells (H0.out.below hb); clear hb)
        go_ret
        have hl1 : (t.f3.take 1).length = 1 := by rw [List.length_take]; have := HLN.out; omega
        refine ⟨_, rfl, ⟨some ad, c3, ?_, ?_, f_take1 HX.out.2.2 (by have := HLN.out; omega)⟩, HB1.out⟩
        · rw [hl1]
          rfl
        · rw [hl1]; have := HX.out.2.1; have := HLN.out; omega
      | false =>
        rw [hq] at HT
        rw [if_neg (by rintro ⟨_, h⟩; cases h)]
        clear c4 c5
        go_enter Try.func59, Try.ntmps59
        go_wp2_with (go_at_call 56; refine HT.out.mono ?_; rintro e w1 ⟨rfl, hb⟩; have HB1 := Aside0.mk (below_step HB.out hb); obtain ⟨x0, x1, x2, x3⟩ := four_cells (H0.out.below hb); clear hb)
        go_ret
        exact ⟨_, rfl, ⟨none, 0, rfl, Nat.le_refl _, Kd.F_nil _ _ _⟩, HB1.out⟩
    · have z5 : (t.f0 == 5) = false := by simp [c5]
      rw [if_neg (fun h => c5 h.1)]
      clear h hw hk hx hv0 hb0 c4 c5
      go_enter Try.func59, Try.ntmps59
      go_wp2_with (fail)
      go_ret
      exact ⟨_, rfl, ⟨none, 0, rfl, Nat.le_refl _, Kd.F_nil _ _ _⟩, HB.out⟩
end Go.Proofs.Ytgohmganimamcaa.Term
