/- Own and printed texts, laid together. -/
import Derived.Test.YtgohmganimamcaaTpSG
import Derived.Deep.RegionLaw
import Derived.Deep.DeepMust
import Derived.Deep.DeepCutAuto
import Derived.Deep.CutRange
/- The law TermSame: walked by hand (printed by gen_termsame.py). -/
namespace Go.Proofs.Ytgohmganimamcaa.Term
set_option linter.unusedVariables false
set_option linter.unusedSimpArgs false
open Go.RowKit Go.Proofs.Ytgohmganimamcaa.Base Go.Proofs.Ytgohmganimamcaa.TlvPlain Go.Proofs.Ytgohmganimamcaa.Lo Go.Proofs.Ytgohmganimamcaa.RdPlain Go.Proofs.Ytgohmganimamcaa.Aid Go.Proofs.Ytgohmganimamcaa.PZ Go.Proofs.YtgohmganimamcaaW.PrintWords Go.Proofs.YtgohmganimamcaaW.PrintLast Go.Proofs.YtgohmganimamcaaW.PrintMore
theorem second_term (w : World) (a b : Obj) : ((w.alloc a).alloc b).heap[w.heap.size + 1]? = some b := by
  have h := blk_new (w.alloc a) b
  simpa using h
def nn {α : Type} : Option α → Nat
  | none => 1
  | some _ => 0
def lstR (v2 v6 v8 : Option Value) (p8 p9 p10 : Option Nat) : Array Bool := #[true, true, v2.isSome, true, true, true, v6.isSome, true, v8.isSome, p8.isSome, p9.isSome, p10.isSome, false, false, false]
def put6 (a : Act) (v2 v6 v8 : Option Value) (p8 p9 p10 : Option Nat) : Act := putO (putO (putO (putO (putO (putO a 26 v2) 30 v6) 32 v8) 8 (p8.map ptrV)) 9 (p9.map ptrV)) 10 (p10.map ptrV)
set_option maxHeartbeats 16000000 in
set_option maxRecDepth 100000 in
theorem sameWalk (w : World) (x : ST) (cx : Array Value) (hK : k26.K w x cx.toList) (okx : wfT x) (y : ST) (cy : Array Value) (hL : k26.K w y cy.toList) (oky : wfT y) (n : Int) (hn : (Lit.int .u64 n).wf = true) :
    Calls Try.prog 9 #[.agg cx, .agg cy, .int .u64 n] w fun e w' => e = .returned (.bool true) ∧ Below w.heap.size w w' := by
  obtain ⟨A2, c2, A3, c3, f0, l2, r2, l3, r3⟩ := k26_open hK
  have e2 : cx = #[.int .i64 x.f0, .int .u64 x.f1, .slice A2 x.f2.length c2, .slice A3 x.f3.length c3] := Array.toList_inj.1 f0
  subst e2
  obtain ⟨B2, d2, B3, d3, f0, m2, q2, m3, q3⟩ := k26_open hL
  have e2 : cy = #[.int .i64 y.f0, .int .u64 y.f1, .slice B2 y.f2.length d2, .slice B3 y.f3.length d3] := Array.toList_inj.1 f0
  subst e2
  have hx : RowsT w x A2 c2 A3 c3 := ⟨⟨l2, r2⟩, l3, r3⟩
  have hy : RowsT w y B2 d2 B3 d3 := ⟨⟨m2, q2⟩, m3, q3⟩
  obtain ⟨b1, hs1, hl1⟩ := small_c x
  obtain ⟨b2, hs2, hl2⟩ := small_c y
  have HS1 := Aside0.mk hs1
  have HS2 := Aside0.mk hs2
  have HW := Aside0.mk (And.intro okx oky)
  have hb0 := below_alloc (below_alloc (Below.refl w.heap.size w) (.cells #[.int .i64 x.f0, .int .u64 x.f1, .slice A2 x.f2.length c2, .slice A3 x.f3.length c3] 26)) (.cells #[.int .i64 y.f0, .int .u64 y.f1, .slice B2 y.f2.length d2, .slice B3 y.f3.length d3] 26)
  have HB := Aside0.mk hb0
  have HX := Aside0.mk (show Blk ((w.alloc (.cells #[.int .i64 x.f0, .int .u64 x.f1, .slice A2 x.f2.length c2, .slice A3 x.f3.length c3] 26)).alloc (.cells #[.int .i64 y.f0, .int .u64 y.f1, .slice B2 y.f2.length d2, .slice B3 y.f3.length d3] 26)) w.heap.size 26 #[.int .i64 x.f0, .int .u64 x.f1, .slice A2 x.f2.length c2, .slice A3 x.f3.length c3] from Blk.alloc (show Blk (w.alloc (.cells #[.int .i64 x.f0, .int .u64 x.f1, .slice A2 x.f2.length c2, .slice A3 x.f3.length c3] 26)) w.heap.size 26 #[.int .i64 x.f0, .int .u64 x.f1, .slice A2 x.f2.length c2, .slice A3 x.f3.length c3] from blk_new _ _) _)
  have HY := Aside0.mk (show Blk ((w.alloc (.cells #[.int .i64 x.f0, .int .u64 x.f1, .slice A2 x.f2.length c2, .slice A3 x.f3.length c3] 26)).alloc (.cells #[.int .i64 y.f0, .int .u64 y.f1, .slice B2 y.f2.length d2, .slice B3 y.f3.length d3] 26)) (w.heap.size + 1) 26 #[.int .i64 y.f0, .int .u64 y.f1, .slice B2 y.f2.length d2, .slice B3 y.f3.length d3] from second_term _ _ _)
  have HRX := Aside0.mk (hx.below hb0)
  have HRY := Aside0.mk (hy.below hb0)
  have hu26 := Try.underlying26
  have hu24 := Try.underlying24
  have x0 := HX.out.cell 0
  have x1 := HX.out.cell 1
  have x2 := HX.out.cell 2
  have x3 := HX.out.cell 3
  simp only [List.getElem?_toArray, List.getElem?_cons_zero, List.getElem?_cons_succ] at x0 x1 x2 x3
  clear hK hL l2 r2 l3 r3 m2 q2 m3 q3 hx hy hs1 hs2 okx oky hb0 hn
  cases b1 with
  | false =>
    clear hl1 hl2
    go_enter Try.func9, Try.ntmps9
    go_wp2_with (first
      | (go_at_call 10; refine (HS1.out A2 c2 A3 c3 _ HRX.out).mono ?_; rintro e w1 ⟨rfl, hb⟩; have n0_ := Aside0.mk (below_step HB.out hb); have n1_ := Aside0.mk (HX.out.below hb); have n2_ := Aside0.mk (HY.out.below hb); have n3_ := Aside0.mk (HRX.out.below hb); have n4_ := Aside0.mk (HRY.out.below hb); clear HB HX HY HRX HRY; have HB := n0_; have HX := n1_; have HY := n2_; have HRX := n3_; have HRY := n4_; clear n0_ n1_ n2_ n3_ n4_; have y0 := HY.out.cell 0; have y1 := HY.out.cell 1; have y2 := HY.out.cell 2; have y3 := HY.out.cell 3; simp only [List.getElem?_toArray, List.getElem?_cons_zero, List.getElem?_cons_succ] at y0 y1 y2 y3; clear hb)
      | (go_at_call 10; refine (HS2.out B2 d2 B3 d3 _ HRY.out).mono ?_; rintro e w2 ⟨rfl, hb⟩; have n0_ := Aside0.mk (below_step HB.out hb); have n1_ := Aside0.mk (HX.out.below hb); have n2_ := Aside0.mk (HY.out.below hb); have n3_ := Aside0.mk (HRX.out.below hb); have n4_ := Aside0.mk (HRY.out.below hb); clear HB HX HY HRX HRY; have HB := n0_; have HX := n1_; have HY := n2_; have HRX := n3_; have HRY := n4_; clear n0_ n1_ n2_ n3_ n4_; have z0 := HX.out.cell 0; have z1 := HX.out.cell 1; have z2 := HX.out.cell 2; have z3 := HX.out.cell 3; simp only [List.getElem?_toArray, List.getElem?_cons_zero, List.getElem?_cons_succ] at z0 z1 z2 z3; clear hb)
      | (go_at_call 11; refine (live_c _).mono ?_; rintro e wl ⟨rfl, hb⟩; have HBL := Aside0.mk (below_step HB.out hb); clear hb))
    go_ret
    exact ⟨rfl, HBL.out⟩
  | true =>
    cases b2 with
    | false =>
      clear hl1 hl2
      go_enter Try.func9, Try.ntmps9
      go_wp2_with (first
        | (go_at_call 10; refine (HS1.out A2 c2 A3 c3 _ HRX.out).mono ?_; rintro e w1 ⟨rfl, hb⟩; have n0_ := Aside0.mk (below_step HB.out hb); have n1_ := Aside0.mk (HX.out.below hb); have n2_ := Aside0.mk (HY.out.below hb); have n3_ := Aside0.mk (HRX.out.below hb); have n4_ := Aside0.mk (HRY.out.below hb); clear HB HX HY HRX HRY; have HB := n0_; have HX := n1_; have HY := n2_; have HRX := n3_; have HRY := n4_; clear n0_ n1_ n2_ n3_ n4_; have y0 := HY.out.cell 0; have y1 := HY.out.cell 1; have y2 := HY.out.cell 2; have y3 := HY.out.cell 3; simp only [List.getElem?_toArray, List.getElem?_cons_zero, List.getElem?_cons_succ] at y0 y1 y2 y3; clear hb)
        | (go_at_call 10; refine (HS2.out B2 d2 B3 d3 _ HRY.out).mono ?_; rintro e w2 ⟨rfl, hb⟩; have n0_ := Aside0.mk (below_step HB.out hb); have n1_ := Aside0.mk (HX.out.below hb); have n2_ := Aside0.mk (HY.out.below hb); have n3_ := Aside0.mk (HRX.out.below hb); have n4_ := Aside0.mk (HRY.out.below hb); clear HB HX HY HRX HRY; have HB := n0_; have HX := n1_; have HY := n2_; have HRX := n3_; have HRY := n4_; clear n0_ n1_ n2_ n3_ n4_; have z0 := HX.out.cell 0; have z1 := HX.out.cell 1; have z2 := HX.out.cell 2; have z3 := HX.out.cell 3; simp only [List.getElem?_toArray, List.getElem?_cons_zero, List.getElem?_cons_succ] at z0 z1 z2 z3; clear hb)
        | (go_at_call 11; refine (live_c _).mono ?_; rintro e wl ⟨rfl, hb⟩; have HBL := Aside0.mk (below_step HB.out hb); clear hb))
      go_ret
      exact ⟨rfl, HBL.out⟩
    | true =>
      have HLEN := Aside0.mk (And.intro (hl1 rfl) (hl2 rfl))
      clear hl1 hl2
      go_enter Try.func9, Try.ntmps9
      cases hm : mayT 8 x with
      | false =>
        go_upto_region 6 with (first
          | (go_at_call 10; refine (HS1.out A2 c2 A3 c3 _ HRX.out).mono ?_; rintro e w1 ⟨rfl, hb⟩; have n0_ := Aside0.mk (below_step HB.out hb); have n1_ := Aside0.mk (HX.out.below hb); have n2_ := Aside0.mk (HY.out.below hb); have n3_ := Aside0.mk (HRX.out.below hb); have n4_ := Aside0.mk (HRY.out.below hb); clear HB HX HY HRX HRY; have HB := n0_; have HX := n1_; have HY := n2_; have HRX := n3_; have HRY := n4_; clear n0_ n1_ n2_ n3_ n4_; have y0 := HY.out.cell 0; have y1 := HY.out.cell 1; have y2 := HY.out.cell 2; have y3 := HY.out.cell 3; simp only [List.getElem?_toArray, List.getElem?_cons_zero, List.getElem?_cons_succ] at y0 y1 y2 y3; clear hb)
          | (go_at_call 10; refine (HS2.out B2 d2 B3 d3 _ HRY.out).mono ?_; rintro e w2 ⟨rfl, hb⟩; have n0_ := Aside0.mk (below_step HB.out hb); have n1_ := Aside0.mk (HX.out.below hb); have n2_ := Aside0.mk (HY.out.below hb); have n3_ := Aside0.mk (HRX.out.below hb); have n4_ := Aside0.mk (HRY.out.below hb); clear HB HX HY HRX HRY; have HB := n0_; have HX := n1_; have HY := n2_; have HRX := n3_; have HRY := n4_; clear n0_ n1_ n2_ n3_ n4_; have z0 := HX.out.cell 0; have z1 := HX.out.cell 1; have z2 := HX.out.cell 2; have z3 := HX.out.cell 3; simp only [List.getElem?_toArray, List.getElem?_cons_zero, List.getElem?_cons_succ] at z0 z1 z2 z3; clear hb)
          | (go_at_call 17; refine (may2_c x HRX.out).mono ?_; rintro e w3 ⟨rfl, hb⟩; rw [hm]; have n0_ := Aside0.mk (below_step HB.out hb); have n1_ := Aside0.mk (HX.out.below hb); have n2_ := Aside0.mk (HY.out.below hb); have n3_ := Aside0.mk (HRX.out.below hb); have n4_ := Aside0.mk (HRY.out.below hb); clear HB HX HY HRX HRY; have HB := n0_; have HX := n1_; have HY := n2_; have HRX := n3_; have HRY := n4_; clear n0_ n1_ n2_ n3_ n4_; have u0 := HX.out.cell 0; have u1 := HX.out.cell 1; have u2 := HX.out.cell 2; have u3 := HX.out.cell 3; simp only [List.getElem?_toArray, List.getElem?_cons_zero, List.getElem?_cons_succ] at u0 u1 u2 u3; clear hb))
        have HLV := Aside0.mk (show LsV w3 (partsV x) (.slice none 0 0) from by unfold partsV; rw [hm, if_neg (by decide)]; exact ⟨none, 0, rfl, Nat.le_refl _, Kd.C_nil _ _⟩)
        obtain ⟨v, hv⟩ : ∃ v, Value.slice none 0 0 = v := ⟨_, rfl⟩
        rw [hv] at HLV ⊢
        clear hv
        obtain ⟨W, hW⟩ : ∃ W, w3 = W := ⟨_, rfl⟩
        rw [hW] at HB HX HY HRX HRY HLV ⊢
        clear hW
        have HFX := Aside0.mk (rowsF_of HRX.out (Below.refl W.heap.size W))
        have HFY := Aside0.mk (rowsF_of HRY.out (Below.refl W.heap.size W))
        have HF0 := Aside0.mk (fact0 x y n (below_drew1 (Below.refl W.heap.size W)))
        have HS := Aside0.mk (fun (W1 : World) (h : Below W.heap.size W W1) => And.intro (four_cells (HX.out.below h)) (four_cells (HY.out.below h)))
        go_cut [8, 9, 10] from 24 to 32 (fun s8 s9 s10 wx => ∃ p q r, s8 = .pointer (some ⟨p, 0, none⟩) ∧ s9 = .pointer (some ⟨q, 0, none⟩) ∧ s10 = .pointer (some ⟨r, 0, none⟩) ∧ (BoxT wx p ⟨4, 0, [], [x, y]⟩ ∧ BoxT wx q ⟨5, n, [], [x, y]⟩ ∧ BoxT wx r ⟨6, 0, [], [x]⟩) ∧ LsV wx (partsV x) (v) ∧ Below w.heap.size w wx ∧ Blk wx w.heap.size 26 #[.int .i64 x.f0, .int .u64 x.f1, .slice A2 x.f2.length c2, .slice A3 x.f3.length c3] ∧ Blk wx (w.heap.size + 1) 26 #[.int .i64 y.f0, .int .u64 y.f1, .slice B2 y.f2.length d2, .slice B3 y.f3.length d3] ∧ RowsT wx x A2 c2 A3 c3 ∧ RowsT wx y B2 d2 B3 d3)
        case first =>
          refine wp_region_held_drew (S := fun w' => (w'.cell? ⟨w.heap.size, 0, none⟩ = some (.int .i64 x.f0) ∧ w'.cell? ⟨w.heap.size, 1, none⟩ = some (.int .u64 x.f1) ∧ w'.cell? ⟨w.heap.size, 2, none⟩ = some (.slice A2 x.f2.length c2) ∧ w'.cell? ⟨w.heap.size, 3, none⟩ = some (.slice A3 x.f3.length c3)) ∧ (w'.cell? ⟨w.heap.size + 1, 0, none⟩ = some (.int .i64 y.f0) ∧ w'.cell? ⟨w.heap.size + 1, 1, none⟩ = some (.int .u64 y.f1) ∧ w'.cell? ⟨w.heap.size + 1, 2, none⟩ = some (.slice B2 y.f2.length d2) ∧ w'.cell? ⟨w.heap.size + 1, 3, none⟩ = some (.slice B3 y.f3.length d3))) (by kernel_rfl) (HS.out _ HF0.out.1) (fun hHeld => ?_)
          (refine wpAnyH_take (i := 0) (v := ?_) rfl (by kernel_rfl) (by kernel_rfl) (by kernel_rfl) (fun _ _ _ h => h) (Or.inl ⟨by rfl, ?_⟩) (by assumption) ?_; (case' refine_2 => (intro w hSw; go_simp; try with_reducible rfl)); (try simp only [Act.put, List.getElem_toArray, List.getElem_cons_zero, List.getElem_cons_succ, List.setIfInBounds_toArray, List.set_cons_zero, List.set_cons_succ]))
          (refine wpAnyH_take (i := 1) (v := ?_) rfl (by kernel_rfl) (by kernel_rfl) (by kernel_rfl) (fun _ _ _ h => h) (Or.inl ⟨by rfl, ?_⟩) (by assumption) ?_; (case' refine_2 => (intro w hSw; go_simp; try with_reducible rfl)); (try simp only [Act.put, List.getElem_toArray, List.getElem_cons_zero, List.getElem_cons_succ, List.setIfInBounds_toArray, List.set_cons_zero, List.set_cons_succ]))
          (refine wpAnyH_take (i := 3) (v := ?_) rfl (by kernel_rfl) (by kernel_rfl) (by kernel_rfl) (fun _ _ _ h => h) (Or.inl ⟨by rfl, ?_⟩) (by assumption) ?_; (case' refine_2 => (intro w hSw; go_simp; try with_reducible rfl)); (try simp only [Act.put, List.getElem_toArray, List.getElem_cons_zero, List.getElem_cons_succ, List.setIfInBounds_toArray, List.set_cons_zero, List.set_cons_succ]))
          (refine wpAnyH_take (i := 4) (v := ?_) rfl (by kernel_rfl) (by kernel_rfl) (by kernel_rfl) (fun _ _ _ h => h) (Or.inl ⟨by rfl, ?_⟩) (by assumption) ?_; (case' refine_2 => (intro w hSw; go_simp; try with_reducible rfl)); (try simp only [Act.put, List.getElem_toArray, List.getElem_cons_zero, List.getElem_cons_succ, List.setIfInBounds_toArray, List.set_cons_zero, List.set_cons_succ]))
          (refine wpAnyH_take (i := 5) (v := ?_) rfl (by kernel_rfl) (by kernel_rfl) (by kernel_rfl) (fun _ _ _ h => h) (Or.inl ⟨by rfl, ?_⟩) (by assumption) ?_; (case' refine_2 => (intro w hSw; go_simp; try with_reducible rfl)); (try simp only [Act.put, List.getElem_toArray, List.getElem_cons_zero, List.getElem_cons_succ, List.setIfInBounds_toArray, List.set_cons_zero, List.set_cons_succ]))
          (refine wpAnyH_take (i := 7) (v := ?_) rfl (by kernel_rfl) (by kernel_rfl) (by kernel_rfl) (fun _ _ _ h => h) (Or.inl ⟨by rfl, ?_⟩) (by assumption) ?_; (case' refine_2 => (intro w hSw; go_simp; try with_reducible rfl)); (try simp only [Act.put, List.getElem_toArray, List.getElem_cons_zero, List.getElem_cons_succ, List.setIfInBounds_toArray, List.set_cons_zero, List.set_cons_succ]))
          refine gen_act (Φ := fun a => wpAnyH _ _ _ _ _ _ _ a _) (fun a0 ha => ?_)
          refine held_inv (J := fun fuel listed a w' => ∃ v2 v6 v8 p8 p9 p10, fuel = 3 + (nn v2 + nn v6 + nn v8 + nn p8 + nn p9 + nn p10) ∧ listed = lstR v2 v6 v8 p8 p9 p10 ∧ a = put6 a0 v2 v6 v8 p8 p9 p10 ∧ ((v2 = none ∧ v6 = none ∧ v8 = none) ∨ (∃ u, v2 = some u ∧ v6 = none ∧ v8 = none) ∨ (∃ u t, v2 = some u ∧ v6 = some t ∧ v8 = none) ∨ (∃ u t z, v2 = some u ∧ v6 = some t ∧ v8 = some z)) ∧ FactR W x y n v2 v6 v8 p8 p9 p10 w') ?_ _ _ _ _ ⟨none, none, none, none, none, none, rfl, by kernel_rfl, rfl, .inl ⟨rfl, rfl, rfl⟩, HF0.out⟩
          rintro fuel listed a w1 ⟨v2, v6, v8, p8, p9, p10, hfu, hli, hac, hch, hF⟩
          subst hfu hli
          have HF := Aside0.mk hF
          clear hF
          rcases hch with ⟨rfl, rfl, rfl⟩ | ⟨u2, rfl, rfl, rfl⟩ | ⟨u2, u6, rfl, rfl, rfl⟩ | ⟨u2, u6, u8, rfl, rfl, rfl⟩
          ·
            rcases p8 with _ | p8
            ·
              rcases p9 with _ | p9
              ·
                rcases p10 with _ | p10
                ·
                  simp only [ha, put6, putO, Option.map_some, Option.map_none, ptrV, Act.put, List.setIfInBounds_toArray, List.set_cons_zero, List.set_cons_succ] at hac
                  subst hac
                  refine Or.inr ⟨8, [2, 9, 10, 11], rfl, by kernel_rfl, by decide, (AllJ.cons rfl (fun K hK => ?_) (AllJ.cons rfl (fun K hK => ?_) (AllJ.cons rfl (fun K hK => ?_) (AllJ.cons rfl (fun K hK => ?_) AllJ.nil))))⟩
                  · go_simp
                    go_at_call 33
                    refine (pair_c (rowsF_of HRX.out HF.out.1) (rowsF_of HRY.out HF.out.1)).mono ?_
                    rintro e w2 ⟨v, rfl, ht, hb⟩
                    have hN := HF.out.call2 hb ht
                    exact Shut.out hK _ _ (HS.out _ hN.1) ⟨(some v), none, none, none, none, none, rfl, by kernel_rfl, (by simp only [ha, put6, putO, Option.map_some, Option.map_none, ptrV, Act.put, List.setIfInBounds_toArray, List.set_cons_zero, List.set_cons_succ]), .inr (.inl ⟨_, rfl, rfl, rfl⟩), hN⟩
                  · go_simp
                    have hN := HF.out.al8
                    exact Shut.out hK _ _ (HS.out _ hN.1) ⟨none, none, none, some w1.heap.size, none, none, rfl, by kernel_rfl, (by simp only [ha, put6, putO, Option.map_some, Option.map_none, ptrV, Act.put, List.setIfInBounds_toArray, List.set_cons_zero, List.set_cons_succ]), .inl ⟨rfl, rfl, rfl⟩, hN⟩
                  · go_simp
                    have hN := HF.out.al9
                    exact Shut.out hK _ _ (HS.out _ hN.1) ⟨none, none, none, none, some w1.heap.size, none, rfl, by kernel_rfl, (by simp only [ha, put6, putO, Option.map_some, Option.map_none, ptrV, Act.put, List.setIfInBounds_toArray, List.set_cons_zero, List.set_cons_succ]), .inl ⟨rfl, rfl, rfl⟩, hN⟩
                  · go_simp
                    have hN := HF.out.al10
                    exact Shut.out hK _ _ (HS.out _ hN.1) ⟨none, none, none, none, none, some w1.heap.size, rfl, by kernel_rfl, (by simp only [ha, put6, putO, Option.map_some, Option.map_none, ptrV, Act.put, List.setIfInBounds_toArray, List.set_cons_zero, List.set_cons_succ]), .inl ⟨rfl, rfl, rfl⟩, hN⟩
                ·
                  simp only [ha, put6, putO, Option.map_some, Option.map_none, ptrV, Act.put, List.setIfInBounds_toArray, List.set_cons_zero, List.set_cons_succ] at hac
                  subst hac
                  refine Or.inr ⟨7, [2, 9, 10], rfl, by kernel_rfl, by decide, (AllJ.cons rfl (fun K hK => ?_) (AllJ.cons rfl (fun K hK => ?_) (AllJ.cons rfl (fun K hK => ?_) AllJ.nil)))⟩
                  · go_simp
                    go_at_call 33
                    refine (pair_c (rowsF_of HRX.out HF.out.1) (rowsF_of HRY.out HF.out.1)).mono ?_
                    rintro e w2 ⟨v, rfl, ht, hb⟩
                    have hN := HF.out.call2 hb ht
                    exact Shut.out hK _ _ (HS.out _ hN.1) ⟨(some v), none, none, none, none, some p10, rfl, by kernel_rfl, (by simp only [ha, put6, putO, Option.map_some, Option.map_none, ptrV, Act.put, List.setIfInBounds_toArray, List.set_cons_zero, List.set_cons_succ]), .inr (.inl ⟨_, rfl, rfl, rfl⟩), hN⟩
                  · go_simp
                    have hN := HF.out.al8
                    exact Shut.out hK _ _ (HS.out _ hN.1) ⟨none, none, none, some w1.heap.size, none, some p10, rfl, by kernel_rfl, (by simp only [ha, put6, putO, Option.map_some, Option.map_none, ptrV, Act.put, List.setIfInBounds_toArray, List.set_cons_zero, List.set_cons_succ]), .inl ⟨rfl, rfl, rfl⟩, hN⟩
                  · go_simp
                    have hN := HF.out.al9
                    exact Shut.out hK _ _ (HS.out _ hN.1) ⟨none, none, none, none, some w1.heap.size, some p10, rfl, by kernel_rfl, (by simp only [ha, put6, putO, Option.map_some, Option.map_none, ptrV, Act.put, List.setIfInBounds_toArray, List.set_cons_zero, List.set_cons_succ]), .inl ⟨rfl, rfl, rfl⟩, hN⟩
              ·
                rcases p10 with _ | p10
                ·
                  simp only [ha, put6, putO, Option.map_some, Option.map_none, ptrV, Act.put, List.setIfInBounds_toArray, List.set_cons_zero, List.set_cons_succ] at hac
                  subst hac
                  refine Or.inr ⟨7, [2, 9, 11], rfl, by kernel_rfl, by decide, (AllJ.cons rfl (fun K hK => ?_) (AllJ.cons rfl (fun K hK => ?_) (AllJ.cons rfl (fun K hK => ?_) AllJ.nil)))⟩
                  · go_simp
                    go_at_call 33
                    refine (pair_c (rowsF_of HRX.out HF.out.1) (rowsF_of HRY.out HF.out.1)).mono ?_
                    rintro e w2 ⟨v, rfl, ht, hb⟩
                    have hN := HF.out.call2 hb ht
                    exact Shut.out hK _ _ (HS.out _ hN.1) ⟨(some v), none, none, none, some p9, none, rfl, by kernel_rfl, (by simp only [ha, put6, putO, Option.map_some, Option.map_none, ptrV, Act.put, List.setIfInBounds_toArray, List.set_cons_zero, List.set_cons_succ]), .inr (.inl ⟨_, rfl, rfl, rfl⟩), hN⟩
                  · go_simp
                    have hN := HF.out.al8
                    exact Shut.out hK _ _ (HS.out _ hN.1) ⟨none, none, none, some w1.heap.size, some p9, none, rfl, by kernel_rfl, (by simp only [ha, put6, putO, Option.map_some, Option.map_none, ptrV, Act.put, List.setIfInBounds_toArray, List.set_cons_zero, List.set_cons_succ]), .inl ⟨rfl, rfl, rfl⟩, hN⟩
                  · go_simp
                    have hN := HF.out.al10
                    exact Shut.out hK _ _ (HS.out _ hN.1) ⟨none, none, none, none, some p9, some w1.heap.size, rfl, by kernel_rfl, (by simp only [ha, put6, putO, Option.map_some, Option.map_none, ptrV, Act.put, List.setIfInBounds_toArray, List.set_cons_zero, List.set_cons_succ]), .inl ⟨rfl, rfl, rfl⟩, hN⟩
                ·
                  simp only [ha, put6, putO, Option.map_some, Option.map_none, ptrV, Act.put, List.setIfInBounds_toArray, List.set_cons_zero, List.set_cons_succ] at hac
                  subst hac
                  refine Or.inr ⟨6, [2, 9], rfl, by kernel_rfl, by decide, (AllJ.cons rfl (fun K hK => ?_) (AllJ.cons rfl (fun K hK => ?_) AllJ.nil))⟩
                  · go_simp
                    go_at_call 33
                    refine (pair_c (rowsF_of HRX.out HF.out.1) (rowsF_of HRY.out HF.out.1)).mono ?_
                    rintro e w2 ⟨v, rfl, ht, hb⟩
                    have hN := HF.out.call2 hb ht
                    exact Shut.out hK _ _ (HS.out _ hN.1) ⟨(some v), none, none, none, some p9, some p10, rfl, by kernel_rfl, (by simp only [ha, put6, putO, Option.map_some, Option.map_none, ptrV, Act.put, List.setIfInBounds_toArray, List.set_cons_zero, List.set_cons_succ]), .inr (.inl ⟨_, rfl, rfl, rfl⟩), hN⟩
                  · go_simp
                    have hN := HF.out.al8
                    exact Shut.out hK _ _ (HS.out _ hN.1) ⟨none, none, none, some w1.heap.size, some p9, some p10, rfl, by kernel_rfl, (by simp only [ha, put6, putO, Option.map_some, Option.map_none, ptrV, Act.put, List.setIfInBounds_toArray, List.set_cons_zero, List.set_cons_succ]), .inl ⟨rfl, rfl, rfl⟩, hN⟩
            ·
              rcases p9 with _ | p9
              ·
                rcases p10 with _ | p10
                ·
                  simp only [ha, put6, putO, Option.map_some, Option.map_none, ptrV, Act.put, List.setIfInBounds_toArray, List.set_cons_zero, List.set_cons_succ] at hac
                  subst hac
                  refine Or.inr ⟨7, [2, 10, 11], rfl, by kernel_rfl, by decide, (AllJ.cons rfl (fun K hK => ?_) (AllJ.cons rfl (fun K hK => ?_) (AllJ.cons rfl (fun K hK => ?_) AllJ.nil)))⟩
                  · go_simp
                    go_at_call 33
                    refine (pair_c (rowsF_of HRX.out HF.out.1) (rowsF_of HRY.out HF.out.1)).mono ?_
                    rintro e w2 ⟨v, rfl, ht, hb⟩
                    have hN := HF.out.call2 hb ht
                    exact Shut.out hK _ _ (HS.out _ hN.1) ⟨(some v), none, none, some p8, none, none, rfl, by kernel_rfl, (by simp only [ha, put6, putO, Option.map_some, Option.map_none, ptrV, Act.put, List.setIfInBounds_toArray, List.set_cons_zero, List.set_cons_succ]), .inr (.inl ⟨_, rfl, rfl, rfl⟩), hN⟩
                  · go_simp
                    have hN := HF.out.al9
                    exact Shut.out hK _ _ (HS.out _ hN.1) ⟨none, none, none, some p8, some w1.heap.size, none, rfl, by kernel_rfl, (by simp only [ha, put6, putO, Option.map_some, Option.map_none, ptrV, Act.put, List.setIfInBounds_toArray, List.set_cons_zero, List.set_cons_succ]), .inl ⟨rfl, rfl, rfl⟩, hN⟩
                  · go_simp
                    have hN := HF.out.al10
                    exact Shut.out hK _ _ (HS.out _ hN.1) ⟨none, none, none, some p8, none, some w1.heap.size, rfl, by kernel_rfl, (by simp only [ha, put6, putO, Option.map_some, Option.map_none, ptrV, Act.put, List.setIfInBounds_toArray, List.set_cons_zero, List.set_cons_succ]), .inl ⟨rfl, rfl, rfl⟩, hN⟩
                ·
                  simp only [ha, put6, putO, Option.map_some, Option.map_none, ptrV, Act.put, List.setIfInBounds_toArray, List.set_cons_zero, List.set_cons_succ] at hac
                  subst hac
                  refine Or.inr ⟨6, [2, 10], rfl, by kernel_rfl, by decide, (AllJ.cons rfl (fun K hK => ?_) (AllJ.cons rfl (fun K hK => ?_) AllJ.nil))⟩
                  · go_simp
                    go_at_call 33
                    refine (pair_c (rowsF_of HRX.out HF.out.1) (rowsF_of HRY.out HF.out.1)).mono ?_
                    rintro e w2 ⟨v, rfl, ht, hb⟩
                    have hN := HF.out.call2 hb ht
                    exact Shut.out hK _ _ (HS.out _ hN.1) ⟨(some v), none, none, some p8, none, some p10, rfl, by kernel_rfl, (by simp only [ha, put6, putO, Option.map_some, Option.map_none, ptrV, Act.put, List.setIfInBounds_toArray, List.set_cons_zero, List.set_cons_succ]), .inr (.inl ⟨_, rfl, rfl, rfl⟩), hN⟩
                  · go_simp
                    have hN := HF.out.al9
                    exact Shut.out hK _ _ (HS.out _ hN.1) ⟨none, none, none, some p8, some w1.heap.size, some p10, rfl, by kernel_rfl, (by simp only [ha, put6, putO, Option.map_some, Option.map_none, ptrV, Act.put, List.setIfInBounds_toArray, List.set_cons_zero, List.set_cons_succ]), .inl ⟨rfl, rfl, rfl⟩, hN⟩
              ·
                rcases p10 with _ | p10
                ·
                  simp only [ha, put6, putO, Option.map_some, Option.map_none, ptrV, Act.put, List.setIfInBounds_toArray, List.set_cons_zero, List.set_cons_succ] at hac
                  subst hac
                  refine Or.inr ⟨6, [2, 11], rfl, by kernel_rfl, by decide, (AllJ.cons rfl (fun K hK => ?_) (AllJ.cons rfl (fun K hK => ?_) AllJ.nil))⟩
                  · go_simp
                    go_at_call 33
                    refine (pair_c (rowsF_of HRX.out HF.out.1) (rowsF_of HRY.out HF.out.1)).mono ?_
                    rintro e w2 ⟨v, rfl, ht, hb⟩
                    have hN := HF.out.call2 hb ht
                    exact Shut.out hK _ _ (HS.out _ hN.1) ⟨(some v), none, none, some p8, some p9, none, rfl, by kernel_rfl, (by simp only [ha, put6, putO, Option.map_some, Option.map_none, ptrV, Act.put, List.setIfInBounds_toArray, List.set_cons_zero, List.set_cons_succ]), .inr (.inl ⟨_, rfl, rfl, rfl⟩), hN⟩
                  · go_simp
                    have hN := HF.out.al10
                    exact Shut.out hK _ _ (HS.out _ hN.1) ⟨none, none, none, some p8, some p9, some w1.heap.size, rfl, by kernel_rfl, (by simp only [ha, put6, putO, Option.map_some, Option.map_none, ptrV, Act.put, List.setIfInBounds_toArray, List.set_cons_zero, List.set_cons_succ]), .inl ⟨rfl, rfl, rfl⟩, hN⟩
                ·
                  simp only [ha, put6, putO, Option.map_some, Option.map_none, ptrV, Act.put, List.setIfInBounds_toArray, List.set_cons_zero, List.set_cons_succ] at hac
                  subst hac
                  refine Or.inr ⟨5, [2], rfl, by kernel_rfl, by decide, (AllJ.cons rfl (fun K hK => ?_) AllJ.nil)⟩
                  · go_simp
                    go_at_call 33
                    refine (pair_c (rowsF_of HRX.out HF.out.1) (rowsF_of HRY.out HF.out.1)).mono ?_
                    rintro e w2 ⟨v, rfl, ht, hb⟩
                    have hN := HF.out.call2 hb ht
                    exact Shut.out hK _ _ (HS.out _ hN.1) ⟨(some v), none, none, some p8, some p9, some p10, rfl, by kernel_rfl, (by simp only [ha, put6, putO, Option.map_some, Option.map_none, ptrV, Act.put, List.setIfInBounds_toArray, List.set_cons_zero, List.set_cons_succ]), .inr (.inl ⟨_, rfl, rfl, rfl⟩), hN⟩
          ·
            rcases p8 with _ | p8
            ·
              rcases p9 with _ | p9
              ·
                rcases p10 with _ | p10
                ·
                  simp only [ha, put6, putO, Option.map_some, Option.map_none, ptrV, Act.put, List.setIfInBounds_toArray, List.set_cons_zero, List.set_cons_succ] at hac
                  subst hac
                  refine Or.inr ⟨7, [6, 9, 10, 11], rfl, by kernel_rfl, by decide, (AllJ.cons rfl (fun K hK => ?_) (AllJ.cons rfl (fun K hK => ?_) (AllJ.cons rfl (fun K hK => ?_) (AllJ.cons rfl (fun K hK => ?_) AllJ.nil))))⟩
                  · go_simp
                    go_at_call 34
                    refine (enc_c n (rowsF_of HRX.out HF.out.1) (rowsF_of HRY.out HF.out.1)).mono ?_
                    rintro e w2 ⟨v, rfl, ht, hb⟩
                    have hN := HF.out.call6 hb ht
                    exact Shut.out hK _ _ (HS.out _ hN.1) ⟨(some u2), (some v), none, none, none, none, rfl, by kernel_rfl, (by simp only [ha, put6, putO, Option.map_some, Option.map_none, ptrV, Act.put, List.setIfInBounds_toArray, List.set_cons_zero, List.set_cons_succ]), .inr (.inr (.inl ⟨_, _, rfl, rfl, rfl⟩)), hN⟩
                  · go_simp
                    have hN := HF.out.al8
                    exact Shut.out hK _ _ (HS.out _ hN.1) ⟨(some u2), none, none, some w1.heap.size, none, none, rfl, by kernel_rfl, (by simp only [ha, put6, putO, Option.map_some, Option.map_none, ptrV, Act.put, List.setIfInBounds_toArray, List.set_cons_zero, List.set_cons_succ]), .inr (.inl ⟨_, rfl, rfl, rfl⟩), hN⟩
                  · go_simp
                    have hN := HF.out.al9
                    exact Shut.out hK _ _ (HS.out _ hN.1) ⟨(some u2), none, none, none, some w1.heap.size, none, rfl, by kernel_rfl, (by simp only [ha, put6, putO, Option.map_some, Option.map_none, ptrV, Act.put, List.setIfInBounds_toArray, List.set_cons_zero, List.set_cons_succ]), .inr (.inl ⟨_, rfl, rfl, rfl⟩), hN⟩
                  · go_simp
                    have hN := HF.out.al10
                    exact Shut.out hK _ _ (HS.out _ hN.1) ⟨(some u2), none, none, none, none, some w1.heap.size, rfl, by kernel_rfl, (by simp only [ha, put6, putO, Option.map_some, Option.map_none, ptrV, Act.put, List.setIfInBounds_toArray, List.set_cons_zero, List.set_cons_succ]), .inr (.inl ⟨_, rfl, rfl, rfl⟩), hN⟩
                ·
                  simp only [ha, put6, putO, Option.map_some, Option.map_none, ptrV, Act.put, List.setIfInBounds_toArray, List.set_cons_zero, List.set_cons_succ] at hac
                  subst hac
                  refine Or.inr ⟨6, [6, 9, 10], rfl, by kernel_rfl, by decide, (AllJ.cons rfl (fun K hK => ?_) (AllJ.cons rfl (fun K hK => ?_) (AllJ.cons rfl (fun K hK => ?_) AllJ.nil)))⟩
                  · go_simp
                    go_at_call 34
                    refine (enc_c n (rowsF_of HRX.out HF.out.1) (rowsF_of HRY.out HF.out.1)).mono ?_
                    rintro e w2 ⟨v, rfl, ht, hb⟩
                    have hN := HF.out.call6 hb ht
                    exact Shut.out hK _ _ (HS.out _ hN.1) ⟨(some u2), (some v), none, none, none, some p10, rfl, by kernel_rfl, (by simp only [ha, put6, putO, Option.map_some, Option.map_none, ptrV, Act.put, List.setIfInBounds_toArray, List.set_cons_zero, List.set_cons_succ]), .inr (.inr (.inl ⟨_, _, rfl, rfl, rfl⟩)), hN⟩
                  · go_simp
                    have hN := HF.out.al8
                    exact Shut.out hK _ _ (HS.out _ hN.1) ⟨(some u2), none, none, some w1.heap.size, none, some p10, rfl, by kernel_rfl, (by simp only [ha, put6, putO, Option.map_some, Option.map_none, ptrV, Act.put, List.setIfInBounds_toArray, List.set_cons_zero, List.set_cons_succ]), .inr (.inl ⟨_, rfl, rfl, rfl⟩), hN⟩
                  · go_simp
                    have hN := HF.out.al9
                    exact Shut.out hK _ _ (HS.out _ hN.1) ⟨(some u2), none, none, none, some w1.heap.size, some p10, rfl, by kernel_rfl, (by simp only [ha, put6, putO, Option.map_some, Option.map_none, ptrV, Act.put, List.setIfInBounds_toArray, List.set_cons_zero, List.set_cons_succ]), .inr (.inl ⟨_, rfl, rfl, rfl⟩), hN⟩
              ·
                rcases p10 with _ | p10
                ·
                  simp only [ha, put6, putO, Option.map_some, Option.map_none, ptrV, Act.put, List.setIfInBounds_toArray, List.set_cons_zero, List.set_cons_succ] at hac
                  subst hac
                  refine Or.inr ⟨6, [6, 9, 11], rfl, by kernel_rfl, by decide, (AllJ.cons rfl (fun K hK => ?_) (AllJ.cons rfl (fun K hK => ?_) (AllJ.cons rfl (fun K hK => ?_) AllJ.nil)))⟩
                  · go_simp
                    go_at_call 34
                    refine (enc_c n (rowsF_of HRX.out HF.out.1) (rowsF_of HRY.out HF.out.1)).mono ?_
                    rintro e w2 ⟨v, rfl, ht, hb⟩
                    have hN := HF.out.call6 hb ht
                    exact Shut.out hK _ _ (HS.out _ hN.1) ⟨(some u2), (some v), none, none, some p9, none, rfl, by kernel_rfl, (by simp only [ha, put6, putO, Option.map_some, Option.map_none, ptrV, Act.put, List.setIfInBounds_toArray, List.set_cons_zero, List.set_cons_succ]), .inr (.inr (.inl ⟨_, _, rfl, rfl, rfl⟩)), hN⟩
                  · go_simp
                    have hN := HF.out.al8
                    exact Shut.out hK _ _ (HS.out _ hN.1) ⟨(some u2), none, none, some w1.heap.size, some p9, none, rfl, by kernel_rfl, (by simp only [ha, put6, putO, Option.map_some, Option.map_none, ptrV, Act.put, List.setIfInBounds_toArray, List.set_cons_zero, List.set_cons_succ]), .inr (.inl ⟨_, rfl, rfl, rfl⟩), hN⟩
                  · go_simp
                    have hN := HF.out.al10
                    exact Shut.out hK _ _ (HS.out _ hN.1) ⟨(some u2), none, none, none, some p9, some w1.heap.size, rfl, by kernel_rfl, (by simp only [ha, put6, putO, Option.map_some, Option.map_none, ptrV, Act.put, List.setIfInBounds_toArray, List.set_cons_zero, List.set_cons_succ]), .inr (.inl ⟨_, rfl, rfl, rfl⟩), hN⟩
                ·
                  simp only [ha, put6, putO, Option.map_some, Option.map_none, ptrV, Act.put, List.setIfInBounds_toArray, List.set_cons_zero, List.set_cons_succ] at hac
                  subst hac
                  refine Or.inr ⟨5, [6, 9], rfl, by kernel_rfl, by decide, (AllJ.cons rfl (fun K hK => ?_) (AllJ.cons rfl (fun K hK => ?_) AllJ.nil))⟩
                  · go_simp
                    go_at_call 34
                    refine (enc_c n (rowsF_of HRX.out HF.out.1) (rowsF_of HRY.out HF.out.1)).mono ?_
                    rintro e w2 ⟨v, rfl, ht, hb⟩
                    have hN := HF.out.call6 hb ht
                    exact Shut.out hK _ _ (HS.out _ hN.1) ⟨(some u2), (some v), none, none, some p9, some p10, rfl, by kernel_rfl, (by simp only [ha, put6, putO, Option.map_some, Option.map_none, ptrV, Act.put, List.setIfInBounds_toArray, List.set_cons_zero, List.set_cons_succ]), .inr (.inr (.inl ⟨_, _, rfl, rfl, rfl⟩)), hN⟩
                  · go_simp
                    have hN := HF.out.al8
                    exact Shut.out hK _ _ (HS.out _ hN.1) ⟨(some u2), none, none, some w1.heap.size, some p9, some p10, rfl, by kernel_rfl, (by simp only [ha, put6, putO, Option.map_some, Option.map_none, ptrV, Act.put, List.setIfInBounds_toArray, List.set_cons_zero, List.set_cons_succ]), .inr (.inl ⟨_, rfl, rfl, rfl⟩), hN⟩
            ·
              rcases p9 with _ | p9
              ·
                rcases p10 with _ | p10
                ·
                  simp only [ha, put6, putO, Option.map_some, Option.map_none, ptrV, Act.put, List.setIfInBounds_toArray, List.set_cons_zero, List.set_cons_succ] at hac
                  subst hac
                  refine Or.inr ⟨6, [6, 10, 11], rfl, by kernel_rfl, by decide, (AllJ.cons rfl (fun K hK => ?_) (AllJ.cons rfl (fun K hK => ?_) (AllJ.cons rfl (fun K hK => ?_) AllJ.nil)))⟩
                  · go_simp
                    go_at_call 34
                    refine (enc_c n (rowsF_of HRX.out HF.out.1) (rowsF_of HRY.out HF.out.1)).mono ?_
                    rintro e w2 ⟨v, rfl, ht, hb⟩
                    have hN := HF.out.call6 hb ht
                    exact Shut.out hK _ _ (HS.out _ hN.1) ⟨(some u2), (some v), none, some p8, none, none, rfl, by kernel_rfl, (by simp only [ha, put6, putO, Option.map_some, Option.map_none, ptrV, Act.put, List.setIfInBounds_toArray, List.set_cons_zero, List.set_cons_succ]), .inr (.inr (.inl ⟨_, _, rfl, rfl, rfl⟩)), hN⟩
                  · go_simp
                    have hN := HF.out.al9
                    exact Shut.out hK _ _ (HS.out _ hN.1) ⟨(some u2), none, none, some p8, some w1.heap.size, none, rfl, by kernel_rfl, (by simp only [ha, put6, putO, Option.map_some, Option.map_none, ptrV, Act.put, List.setIfInBounds_toArray, List.set_cons_zero, List.set_cons_succ]), .inr (.inl ⟨_, rfl, rfl, rfl⟩), hN⟩
                  · go_simp
                    have hN := HF.out.al10
                    exact Shut.out hK _ _ (HS.out _ hN.1) ⟨(some u2), none, none, some p8, none, some w1.heap.size, rfl, by kernel_rfl, (by simp only [ha, put6, putO, Option.map_some, Option.map_none, ptrV, Act.put, List.setIfInBounds_toArray, List.set_cons_zero, List.set_cons_succ]), .inr (.inl ⟨_, rfl, rfl, rfl⟩), hN⟩
                ·
                  simp only [ha, put6, putO, Option.map_some, Option.map_none, ptrV, Act.put, List.setIfInBounds_toArray, List.set_cons_zero, List.set_cons_succ] at hac
                  subst hac
                  refine Or.inr ⟨5, [6, 10], rfl, by kernel_rfl, by decide, (AllJ.cons rfl (fun K hK => ?_) (AllJ.cons rfl (fun K hK => ?_) AllJ.nil))⟩
                  · go_simp
                    go_at_call 34
                    refine (enc_c n (rowsF_of HRX.out HF.out.1) (rowsF_of HRY.out HF.out.1)).mono ?_
                    rintro e w2 ⟨v, rfl, ht, hb⟩
                    have hN := HF.out.call6 hb ht
                    exact Shut.out hK _ _ (HS.out _ hN.1) ⟨(some u2), (some v), none, some p8, none, some p10, rfl, by kernel_rfl, (by simp only [ha, put6, putO, Option.map_some, Option.map_none, ptrV, Act.put, List.setIfInBounds_toArray, List.set_cons_zero, List.set_cons_succ]), .inr (.inr (.inl ⟨_, _, rfl, rfl, rfl⟩)), hN⟩
                  · go_simp
                    have hN := HF.out.al9
                    exact Shut.out hK _ _ (HS.out _ hN.1) ⟨(some u2), none, none, some p8, some w1.heap.size, some p10, rfl, by kernel_rfl, (by simp only [ha, put6, putO, Option.map_some, Option.map_none, ptrV, Act.put, List.setIfInBounds_toArray, List.set_cons_zero, List.set_cons_succ]), .inr (.inl ⟨_, rfl, rfl, rfl⟩), hN⟩
              ·
                rcases p10 with _ | p10
                ·
                  simp only [ha, put6, putO, Option.map_some, Option.map_none, ptrV, Act.put, List.setIfInBounds_toArray, List.set_cons_zero, List.set_cons_succ] at hac
                  subst hac
                  refine Or.inr ⟨5, [6, 11], rfl, by kernel_rfl, by decide, (AllJ.cons rfl (fun K hK => ?_) (AllJ.cons rfl (fun K hK => ?_) AllJ.nil))⟩
                  · go_simp
                    go_at_call 34
                    refine (enc_c n (rowsF_of HRX.out HF.out.1) (rowsF_of HRY.out HF.out.1)).mono ?_
                    rintro e w2 ⟨v, rfl, ht, hb⟩
                    have hN := HF.out.call6 hb ht
                    exact Shut.out hK _ _ (HS.out _ hN.1) ⟨(some u2), (some v), none, some p8, some p9, none, rfl, by kernel_rfl, (by simp only [ha, put6, putO, Option.map_some, Option.map_none, ptrV, Act.put, List.setIfInBounds_toArray, List.set_cons_zero, List.set_cons_succ]), .inr (.inr (.inl ⟨_, _, rfl, rfl, rfl⟩)), hN⟩
                  · go_simp
                    have hN := HF.out.al10
                    exact Shut.out hK _ _ (HS.out _ hN.1) ⟨(some u2), none, none, some p8, some p9, some w1.heap.size, rfl, by kernel_rfl, (by simp only [ha, put6, putO, Option.map_some, Option.map_none, ptrV, Act.put, List.setIfInBounds_toArray, List.set_cons_zero, List.set_cons_succ]), .inr (.inl ⟨_, rfl, rfl, rfl⟩), hN⟩
                ·
                  simp only [ha, put6, putO, Option.map_some, Option.map_none, ptrV, Act.put, List.setIfInBounds_toArray, List.set_cons_zero, List.set_cons_succ] at hac
                  subst hac
                  refine Or.inr ⟨4, [6], rfl, by kernel_rfl, by decide, (AllJ.cons rfl (fun K hK => ?_) AllJ.nil)⟩
                  · go_simp
                    go_at_call 34
                    refine (enc_c n (rowsF_of HRX.out HF.out.1) (rowsF_of HRY.out HF.out.1)).mono ?_
                    rintro e w2 ⟨v, rfl, ht, hb⟩
                    have hN := HF.out.call6 hb ht
                    exact Shut.out hK _ _ (HS.out _ hN.1) ⟨(some u2), (some v), none, some p8, some p9, some p10, rfl, by kernel_rfl, (by simp only [ha, put6, putO, Option.map_some, Option.map_none, ptrV, Act.put, List.setIfInBounds_toArray, List.set_cons_zero, List.set_cons_succ]), .inr (.inr (.inl ⟨_, _, rfl, rfl, rfl⟩)), hN⟩
          ·
            rcases p8 with _ | p8
            ·
              rcases p9 with _ | p9
              ·
                rcases p10 with _ | p10
                ·
                  simp only [ha, put6, putO, Option.map_some, Option.map_none, ptrV, Act.put, List.setIfInBounds_toArray, List.set_cons_zero, List.set_cons_succ] at hac
                  subst hac
                  refine Or.inr ⟨6, [8, 9, 10, 11], rfl, by kernel_rfl, by decide, (AllJ.cons rfl (fun K hK => ?_) (AllJ.cons rfl (fun K hK => ?_) (AllJ.cons rfl (fun K hK => ?_) (AllJ.cons rfl (fun K hK => ?_) AllJ.nil))))⟩
                  · go_simp
                    go_at_call 35
                    refine (hash_c (rowsF_of HRX.out HF.out.1)).mono ?_
                    rintro e w2 ⟨v, rfl, ht, hb⟩
                    have hN := HF.out.call8 hb ht
                    exact Shut.out hK _ _ (HS.out _ hN.1) ⟨(some u2), (some u6), (some v), none, none, none, rfl, by kernel_rfl, (by simp only [ha, put6, putO, Option.map_some, Option.map_none, ptrV, Act.put, List.setIfInBounds_toArray, List.set_cons_zero, List.set_cons_succ]), .inr (.inr (.inr ⟨_, _, _, rfl, rfl, rfl⟩)), hN⟩
                  · go_simp
                    have hN := HF.out.al8
                    exact Shut.out hK _ _ (HS.out _ hN.1) ⟨(some u2), (some u6), none, some w1.heap.size, none, none, rfl, by kernel_rfl, (by simp only [ha, put6, putO, Option.map_some, Option.map_none, ptrV, Act.put, List.setIfInBounds_toArray, List.set_cons_zero, List.set_cons_succ]), .inr (.inr (.inl ⟨_, _, rfl, rfl, rfl⟩)), hN⟩
                  · go_simp
                    have hN := HF.out.al9
                    exact Shut.out hK _ _ (HS.out _ hN.1) ⟨(some u2), (some u6), none, none, some w1.heap.size, none, rfl, by kernel_rfl, (by simp only [ha, put6, putO, Option.map_some, Option.map_none, ptrV, Act.put, List.setIfInBounds_toArray, List.set_cons_zero, List.set_cons_succ]), .inr (.inr (.inl ⟨_, _, rfl, rfl, rfl⟩)), hN⟩
                  · go_simp
                    have hN := HF.out.al10
                    exact Shut.out hK _ _ (HS.out _ hN.1) ⟨(some u2), (some u6), none, none, none, some w1.heap.size, rfl, by kernel_rfl, (by simp only [ha, put6, putO, Option.map_some, Option.map_none, ptrV, Act.put, List.setIfInBounds_toArray, List.set_cons_zero, List.set_cons_succ]), .inr (.inr (.inl ⟨_, _, rfl, rfl, rfl⟩)), hN⟩
                ·
                  simp only [ha, put6, putO, Option.map_some, Option.map_none, ptrV, Act.put, List.setIfInBounds_toArray, List.set_cons_zero, List.set_cons_succ] at hac
                  subst hac
                  refine Or.inr ⟨5, [8, 9, 10], rfl, by kernel_rfl, by decide, (AllJ.cons rfl (fun K hK => ?_) (AllJ.cons rfl (fun K hK => ?_) (AllJ.cons rfl (fun K hK => ?_) AllJ.nil)))⟩
                  · go_simp
                    go_at_call 35
                    refine (hash_c (rowsF_of HRX.out HF.out.1)).mono ?_
                    rintro e w2 ⟨v, rfl, ht, hb⟩
                    have hN := HF.out.call8 hb ht
                    exact Shut.out hK _ _ (HS.out _ hN.1) ⟨(some u2), (some u6), (some v), none, none, some p10, rfl, by kernel_rfl, (by simp only [ha, put6, putO, Option.map_some, Option.map_none, ptrV, Act.put, List.setIfInBounds_toArray, List.set_cons_zero, List.set_cons_succ]), .inr (.inr (.inr ⟨_, _, _, rfl, rfl, rfl⟩)), hN⟩
                  · go_simp
                    have hN := HF.out.al8
                    exact Shut.out hK _ _ (HS.out _ hN.1) ⟨(some u2), (some u6), none, some w1.heap.size, none, some p10, rfl, by kernel_rfl, (by simp only [ha, put6, putO, Option.map_some, Option.map_none, ptrV, Act.put, List.setIfInBounds_toArray, List.set_cons_zero, List.set_cons_succ]), .inr (.inr (.inl ⟨_, _, rfl, rfl, rfl⟩)), hN⟩
                  · go_simp
                    have hN := HF.out.al9
                    exact Shut.out hK _ _ (HS.out _ hN.1) ⟨(some u2), (some u6), none, none, some w1.heap.size, some p10, rfl, by kernel_rfl, (by simp only [ha, put6, putO, Option.map_some, Option.map_none, ptrV, Act.put, List.setIfInBounds_toArray, List.set_cons_zero, List.set_cons_succ]), .inr (.inr (.inl ⟨_, _, rfl, rfl, rfl⟩)), hN⟩
              ·
                rcases p10 with _ | p10
                ·
                  simp only [ha, put6, putO, Option.map_some, Option.map_none, ptrV, Act.put, List.setIfInBounds_toArray, List.set_cons_zero, List.set_cons_succ] at hac
                  subst hac
                  refine Or.inr ⟨5, [8, 9, 11], rfl, by kernel_rfl, by decide, (AllJ.cons rfl (fun K hK => ?_) (AllJ.cons rfl (fun K hK => ?_) (AllJ.cons rfl (fun K hK => ?_) AllJ.nil)))⟩
                  · go_simp
                    go_at_call 35
                    refine (hash_c (rowsF_of HRX.out HF.out.1)).mono ?_
                    rintro e w2 ⟨v, rfl, ht, hb⟩
                    have hN := HF.out.call8 hb ht
                    exact Shut.out hK _ _ (HS.out _ hN.1) ⟨(some u2), (some u6), (some v), none, some p9, none, rfl, by kernel_rfl, (by simp only [ha, put6, putO, Option.map_some, Option.map_none, ptrV, Act.put, List.setIfInBounds_toArray, List.set_cons_zero, List.set_cons_succ]), .inr (.inr (.inr ⟨_, _, _, rfl, rfl, rfl⟩)), hN⟩
                  · go_simp
                    have hN := HF.out.al8
                    exact Shut.out hK _ _ (HS.out _ hN.1) ⟨(some u2), (some u6), none, some w1.heap.size, some p9, none, rfl, by kernel_rfl, (by simp only [ha, put6, putO, Option.map_some, Option.map_none, ptrV, Act.put, List.setIfInBounds_toArray, List.set_cons_zero, List.set_cons_succ]), .inr (.inr (.inl ⟨_, _, rfl, rfl, rfl⟩)), hN⟩
                  · go_simp
                    have hN := HF.out.al10
                    exact Shut.out hK _ _ (HS.out _ hN.1) ⟨(some u2), (some u6), none, none, some p9, some w1.heap.size, rfl, by kernel_rfl, (by simp only [ha, put6, putO, Option.map_some, Option.map_none, ptrV, Act.put, List.setIfInBounds_toArray, List.set_cons_zero, List.set_cons_succ]), .inr (.inr (.inl ⟨_, _, rfl, rfl, rfl⟩)), hN⟩
                ·
                  simp only [ha, put6, putO, Option.map_some, Option.map_none, ptrV, Act.put, List.setIfInBounds_toArray, List.set_cons_zero, List.set_cons_succ] at hac
                  subst hac
                  refine Or.inr ⟨4, [8, 9], rfl, by kernel_rfl, by decide, (AllJ.cons rfl (fun K hK => ?_) (AllJ.cons rfl (fun K hK => ?_) AllJ.nil))⟩
                  · go_simp
                    go_at_call 35
                    refine (hash_c (rowsF_of HRX.out HF.out.1)).mono ?_
                    rintro e w2 ⟨v, rfl, ht, hb⟩
                    have hN := HF.out.call8 hb ht
                    exact Shut.out hK _ _ (HS.out _ hN.1) ⟨(some u2), (some u6), (some v), none, some p9, some p10, rfl, by kernel_rfl, (by simp only [ha, put6, putO, Option.map_some, Option.map_none, ptrV, Act.put, List.setIfInBounds_toArray, List.set_cons_zero, List.set_cons_succ]), .inr (.inr (.inr ⟨_, _, _, rfl, rfl, rfl⟩)), hN⟩
                  · go_simp
                    have hN := HF.out.al8
                    exact Shut.out hK _ _ (HS.out _ hN.1) ⟨(some u2), (some u6), none, some w1.heap.size, some p9, some p10, rfl, by kernel_rfl, (by simp only [ha, put6, putO, Option.map_some, Option.map_none, ptrV, Act.put, List.setIfInBounds_toArray, List.set_cons_zero, List.set_cons_succ]), .inr (.inr (.inl ⟨_, _, rfl, rfl, rfl⟩)), hN⟩
            ·
              rcases p9 with _ | p9
              ·
                rcases p10 with _ | p10
                ·
                  simp only [ha, put6, putO, Option.map_some, Option.map_none, ptrV, Act.put, List.setIfInBounds_toArray, List.set_cons_zero, List.set_cons_succ] at hac
                  subst hac
                  refine Or.inr ⟨5, [8, 10, 11], rfl, by kernel_rfl, by decide, (AllJ.cons rfl (fun K hK => ?_) (AllJ.cons rfl (fun K hK => ?_) (AllJ.cons rfl (fun K hK => ?_) AllJ.nil)))⟩
                  · go_simp
                    go_at_call 35
                    refine (hash_c (rowsF_of HRX.out HF.out.1)).mono ?_
                    rintro e w2 ⟨v, rfl, ht, hb⟩
                    have hN := HF.out.call8 hb ht
                    exact Shut.out hK _ _ (HS.out _ hN.1) ⟨(some u2), (some u6), (some v), some p8, none, none, rfl, by kernel_rfl, (by simp only [ha, put6, putO, Option.map_some, Option.map_none, ptrV, Act.put, List.setIfInBounds_toArray, List.set_cons_zero, List.set_cons_succ]), .inr (.inr (.inr ⟨_, _, _, rfl, rfl, rfl⟩)), hN⟩
                  · go_simp
                    have hN := HF.out.al9
                    exact Shut.out hK _ _ (HS.out _ hN.1) ⟨(some u2), (some u6), none, some p8, some w1.heap.size, none, rfl, by kernel_rfl, (by simp only [ha, put6, putO, Option.map_some, Option.map_none, ptrV, Act.put, List.setIfInBounds_toArray, List.set_cons_zero, List.set_cons_succ]), .inr (.inr (.inl ⟨_, _, rfl, rfl, rfl⟩)), hN⟩
                  · go_simp
                    have hN := HF.out.al10
                    exact Shut.out hK _ _ (HS.out _ hN.1) ⟨(some u2), (some u6), none, some p8, none, some w1.heap.size, rfl, by kernel_rfl, (by simp only [ha, put6, putO, Option.map_some, Option.map_none, ptrV, Act.put, List.setIfInBounds_toArray, List.set_cons_zero, List.set_cons_succ]), .inr (.inr (.inl ⟨_, _, rfl, rfl, rfl⟩)), hN⟩
                ·
                  simp only [ha, put6, putO, Option.map_some, Option.map_none, ptrV, Act.put, List.setIfInBounds_toArray, List.set_cons_zero, List.set_cons_succ] at hac
                  subst hac
                  refine Or.inr ⟨4, [8, 10], rfl, by kernel_rfl, by decide, (AllJ.cons rfl (fun K hK => ?_) (AllJ.cons rfl (fun K hK => ?_) AllJ.nil))⟩
                  · go_simp
                    go_at_call 35
                    refine (hash_c (rowsF_of HRX.out HF.out.1)).mono ?_
                    rintro e w2 ⟨v, rfl, ht, hb⟩
                    have hN := HF.out.call8 hb ht
                    exact Shut.out hK _ _ (HS.out _ hN.1) ⟨(some u2), (some u6), (some v), some p8, none, some p10, rfl, by kernel_rfl, (by simp only [ha, put6, putO, Option.map_some, Option.map_none, ptrV, Act.put, List.setIfInBounds_toArray, List.set_cons_zero, List.set_cons_succ]), .inr (.inr (.inr ⟨_, _, _, rfl, rfl, rfl⟩)), hN⟩
                  · go_simp
                    have hN := HF.out.al9
                    exact Shut.out hK _ _ (HS.out _ hN.1) ⟨(some u2), (some u6), none, some p8, some w1.heap.size, some p10, rfl, by kernel_rfl, (by simp only [ha, put6, putO, Option.map_some, Option.map_none, ptrV, Act.put, List.setIfInBounds_toArray, List.set_cons_zero, List.set_cons_succ]), .inr (.inr (.inl ⟨_, _, rfl, rfl, rfl⟩)), hN⟩
              ·
                rcases p10 with _ | p10
                ·
                  simp only [ha, put6, putO, Option.map_some, Option.map_none, ptrV, Act.put, List.setIfInBounds_toArray, List.set_cons_zero, List.set_cons_succ] at hac
                  subst hac
                  refine Or.inr ⟨4, [8, 11], rfl, by kernel_rfl, by decide, (AllJ.cons rfl (fun K hK => ?_) (AllJ.cons rfl (fun K hK => ?_) AllJ.nil))⟩
                  · go_simp
                    go_at_call 35
                    refine (hash_c (rowsF_of HRX.out HF.out.1)).mono ?_
                    rintro e w2 ⟨v, rfl, ht, hb⟩
                    have hN := HF.out.call8 hb ht
                    exact Shut.out hK _ _ (HS.out _ hN.1) ⟨(some u2), (some u6), (some v), some p8, some p9, none, rfl, by kernel_rfl, (by simp only [ha, put6, putO, Option.map_some, Option.map_none, ptrV, Act.put, List.setIfInBounds_toArray, List.set_cons_zero, List.set_cons_succ]), .inr (.inr (.inr ⟨_, _, _, rfl, rfl, rfl⟩)), hN⟩
                  · go_simp
                    have hN := HF.out.al10
                    exact Shut.out hK _ _ (HS.out _ hN.1) ⟨(some u2), (some u6), none, some p8, some p9, some w1.heap.size, rfl, by kernel_rfl, (by simp only [ha, put6, putO, Option.map_some, Option.map_none, ptrV, Act.put, List.setIfInBounds_toArray, List.set_cons_zero, List.set_cons_succ]), .inr (.inr (.inl ⟨_, _, rfl, rfl, rfl⟩)), hN⟩
                ·
                  simp only [ha, put6, putO, Option.map_some, Option.map_none, ptrV, Act.put, List.setIfInBounds_toArray, List.set_cons_zero, List.set_cons_succ] at hac
                  subst hac
                  refine Or.inr ⟨3, [8], rfl, by kernel_rfl, by decide, (AllJ.cons rfl (fun K hK => ?_) AllJ.nil)⟩
                  · go_simp
                    go_at_call 35
                    refine (hash_c (rowsF_of HRX.out HF.out.1)).mono ?_
                    rintro e w2 ⟨v, rfl, ht, hb⟩
                    have hN := HF.out.call8 hb ht
                    exact Shut.out hK _ _ (HS.out _ hN.1) ⟨(some u2), (some u6), (some v), some p8, some p9, some p10, rfl, by kernel_rfl, (by simp only [ha, put6, putO, Option.map_some, Option.map_none, ptrV, Act.put, List.setIfInBounds_toArray, List.set_cons_zero, List.set_cons_succ]), .inr (.inr (.inr ⟨_, _, _, rfl, rfl, rfl⟩)), hN⟩
          ·
            rcases p8 with _ | p8
            ·
              rcases p9 with _ | p9
              ·
                rcases p10 with _ | p10
                ·
                  simp only [ha, put6, putO, Option.map_some, Option.map_none, ptrV, Act.put, List.setIfInBounds_toArray, List.set_cons_zero, List.set_cons_succ] at hac
                  subst hac
                  refine Or.inr ⟨5, [9, 10, 11], rfl, by kernel_rfl, by decide, (AllJ.cons rfl (fun K hK => ?_) (AllJ.cons rfl (fun K hK => ?_) (AllJ.cons rfl (fun K hK => ?_) AllJ.nil)))⟩
                  · go_simp
                    have hN := HF.out.al8
                    exact Shut.out hK _ _ (HS.out _ hN.1) ⟨(some u2), (some u6), (some u8), some w1.heap.size, none, none, rfl, by kernel_rfl, (by simp only [ha, put6, putO, Option.map_some, Option.map_none, ptrV, Act.put, List.setIfInBounds_toArray, List.set_cons_zero, List.set_cons_succ]), .inr (.inr (.inr ⟨_, _, _, rfl, rfl, rfl⟩)), hN⟩
                  · go_simp
                    have hN := HF.out.al9
                    exact Shut.out hK _ _ (HS.out _ hN.1) ⟨(some u2), (some u6), (some u8), none, some w1.heap.size, none, rfl, by kernel_rfl, (by simp only [ha, put6, putO, Option.map_some, Option.map_none, ptrV, Act.put, List.setIfInBounds_toArray, List.set_cons_zero, List.set_cons_succ]), .inr (.inr (.inr ⟨_, _, _, rfl, rfl, rfl⟩)), hN⟩
                  · go_simp
                    have hN := HF.out.al10
                    exact Shut.out hK _ _ (HS.out _ hN.1) ⟨(some u2), (some u6), (some u8), none, none, some w1.heap.size, rfl, by kernel_rfl, (by simp only [ha, put6, putO, Option.map_some, Option.map_none, ptrV, Act.put, List.setIfInBounds_toArray, List.set_cons_zero, List.set_cons_succ]), .inr (.inr (.inr ⟨_, _, _, rfl, rfl, rfl⟩)), hN⟩
                ·
                  simp only [ha, put6, putO, Option.map_some, Option.map_none, ptrV, Act.put, List.setIfInBounds_toArray, List.set_cons_zero, List.set_cons_succ] at hac
                  subst hac
                  refine Or.inr ⟨4, [9, 10], rfl, by kernel_rfl, by decide, (AllJ.cons rfl (fun K hK => ?_) (AllJ.cons rfl (fun K hK => ?_) AllJ.nil))⟩
                  · go_simp
                    have hN := HF.out.al8
                    exact Shut.out hK _ _ (HS.out _ hN.1) ⟨(some u2), (some u6), (some u8), some w1.heap.size, none, some p10, rfl, by kernel_rfl, (by simp only [ha, put6, putO, Option.map_some, Option.map_none, ptrV, Act.put, List.setIfInBounds_toArray, List.set_cons_zero, List.set_cons_succ]), .inr (.inr (.inr ⟨_, _, _, rfl, rfl, rfl⟩)), hN⟩
                  · go_simp
                    have hN := HF.out.al9
                    exact Shut.out hK _ _ (HS.out _ hN.1) ⟨(some u2), (some u6), (some u8), none, some w1.heap.size, some p10, rfl, by kernel_rfl, (by simp only [ha, put6, putO, Option.map_some, Option.map_none, ptrV, Act.put, List.setIfInBounds_toArray, List.set_cons_zero, List.set_cons_succ]), .inr (.inr (.inr ⟨_, _, _, rfl, rfl, rfl⟩)), hN⟩
              ·
                rcases p10 with _ | p10
                ·
                  simp only [ha, put6, putO, Option.map_some, Option.map_none, ptrV, Act.put, List.setIfInBounds_toArray, List.set_cons_zero, List.set_cons_succ] at hac
                  subst hac
                  refine Or.inr ⟨4, [9, 11], rfl, by kernel_rfl, by decide, (AllJ.cons rfl (fun K hK => ?_) (AllJ.cons rfl (fun K hK => ?_) AllJ.nil))⟩
                  · go_simp
                    have hN := HF.out.al8
                    exact Shut.out hK _ _ (HS.out _ hN.1) ⟨(some u2), (some u6), (some u8), some w1.heap.size, some p9, none, rfl, by kernel_rfl, (by simp only [ha, put6, putO, Option.map_some, Option.map_none, ptrV, Act.put, List.setIfInBounds_toArray, List.set_cons_zero, List.set_cons_succ]), .inr (.inr (.inr ⟨_, _, _, rfl, rfl, rfl⟩)), hN⟩
                  · go_simp
                    have hN := HF.out.al10
                    exact Shut.out hK _ _ (HS.out _ hN.1) ⟨(some u2), (some u6), (some u8), none, some p9, some w1.heap.size, rfl, by kernel_rfl, (by simp only [ha, put6, putO, Option.map_some, Option.map_none, ptrV, Act.put, List.setIfInBounds_toArray, List.set_cons_zero, List.set_cons_succ]), .inr (.inr (.inr ⟨_, _, _, rfl, rfl, rfl⟩)), hN⟩
                ·
                  simp only [ha, put6, putO, Option.map_some, Option.map_none, ptrV, Act.put, List.setIfInBounds_toArray, List.set_cons_zero, List.set_cons_succ] at hac
                  subst hac
                  refine Or.inr ⟨3, [9], rfl, by kernel_rfl, by decide, (AllJ.cons rfl (fun K hK => ?_) AllJ.nil)⟩
                  · go_simp
                    have hN := HF.out.al8
                    exact Shut.out hK _ _ (HS.out _ hN.1) ⟨(some u2), (some u6), (some u8), some w1.heap.size, some p9, some p10, rfl, by kernel_rfl, (by simp only [ha, put6, putO, Option.map_some, Option.map_none, ptrV, Act.put, List.setIfInBounds_toArray, List.set_cons_zero, List.set_cons_succ]), .inr (.inr (.inr ⟨_, _, _, rfl, rfl, rfl⟩)), hN⟩
            ·
              rcases p9 with _ | p9
              ·
                rcases p10 with _ | p10
                ·
                  simp only [ha, put6, putO, Option.map_some, Option.map_none, ptrV, Act.put, List.setIfInBounds_toArray, List.set_cons_zero, List.set_cons_succ] at hac
                  subst hac
                  refine Or.inr ⟨4, [10, 11], rfl, by kernel_rfl, by decide, (AllJ.cons rfl (fun K hK => ?_) (AllJ.cons rfl (fun K hK => ?_) AllJ.nil))⟩
                  · go_simp
                    have hN := HF.out.al9
                    exact Shut.out hK _ _ (HS.out _ hN.1) ⟨(some u2), (some u6), (some u8), some p8, some w1.heap.size, none, rfl, by kernel_rfl, (by simp only [ha, put6, putO, Option.map_some, Option.map_none, ptrV, Act.put, List.setIfInBounds_toArray, List.set_cons_zero, List.set_cons_succ]), .inr (.inr (.inr ⟨_, _, _, rfl, rfl, rfl⟩)), hN⟩
                  · go_simp
                    have hN := HF.out.al10
                    exact Shut.out hK _ _ (HS.out _ hN.1) ⟨(some u2), (some u6), (some u8), some p8, none, some w1.heap.size, rfl, by kernel_rfl, (by simp only [ha, put6, putO, Option.map_some, Option.map_none, ptrV, Act.put, List.setIfInBounds_toArray, List.set_cons_zero, List.set_cons_succ]), .inr (.inr (.inr ⟨_, _, _, rfl, rfl, rfl⟩)), hN⟩
                ·
                  simp only [ha, put6, putO, Option.map_some, Option.map_none, ptrV, Act.put, List.setIfInBounds_toArray, List.set_cons_zero, List.set_cons_succ] at hac
                  subst hac
                  refine Or.inr ⟨3, [10], rfl, by kernel_rfl, by decide, (AllJ.cons rfl (fun K hK => ?_) AllJ.nil)⟩
                  · go_simp
                    have hN := HF.out.al9
                    exact Shut.out hK _ _ (HS.out _ hN.1) ⟨(some u2), (some u6), (some u8), some p8, some w1.heap.size, some p10, rfl, by kernel_rfl, (by simp only [ha, put6, putO, Option.map_some, Option.map_none, ptrV, Act.put, List.setIfInBounds_toArray, List.set_cons_zero, List.set_cons_succ]), .inr (.inr (.inr ⟨_, _, _, rfl, rfl, rfl⟩)), hN⟩
              ·
                rcases p10 with _ | p10
                ·
                  simp only [ha, put6, putO, Option.map_some, Option.map_none, ptrV, Act.put, List.setIfInBounds_toArray, List.set_cons_zero, List.set_cons_succ] at hac
                  subst hac
                  refine Or.inr ⟨3, [11], rfl, by kernel_rfl, by decide, (AllJ.cons rfl (fun K hK => ?_) AllJ.nil)⟩
                  · go_simp
                    have hN := HF.out.al10
                    exact Shut.out hK _ _ (HS.out _ hN.1) ⟨(some u2), (some u6), (some u8), some p8, some p9, some w1.heap.size, rfl, by kernel_rfl, (by simp only [ha, put6, putO, Option.map_some, Option.map_none, ptrV, Act.put, List.setIfInBounds_toArray, List.set_cons_zero, List.set_cons_succ]), .inr (.inr (.inr ⟨_, _, _, rfl, rfl, rfl⟩)), hN⟩
                ·
                  refine Or.inl ?_
                  simp only [ha, put6, putO, Option.map_some, Option.map_none, ptrV, Act.put, List.setIfInBounds_toArray, List.set_cons_zero, List.set_cons_succ] at hac
                  subst hac
                  obtain ⟨hB1, ⟨hr2, hr6, hr8⟩, ⟨hn8, hn9, hn10⟩, hd1, hd2, hd3⟩ := HF.out
                  obtain ⟨ok2, ⟨P2, s2, P3, s3, rfl, hf2⟩, hk2⟩ := hr2 _ rfl
                  obtain ⟨ok6, ⟨E2, s4, E3, s5, rfl, hf6⟩, hk6⟩ := hr6 _ rfl
                  obtain ⟨ok8, ⟨H2, s6, H3, s7, rfl, hf8⟩, hk8⟩ := hr8 _ rfl
                  have HD := Aside0.mk (And.intro (hd1 _ _ rfl rfl) (And.intro (hd2 _ _ rfl rfl) (hd3 _ _ rfl rfl)))
                  have HK2 := Aside0.mk (show ¬ ok2 p8 ∧ ¬ ok2 p9 ∧ ¬ ok2 p10 from ⟨fun h => (hk2 _ h).2 (.inl rfl), fun h => (hk2 _ h).2 (.inr (.inl rfl)), fun h => (hk2 _ h).2 (.inr (.inr rfl))⟩)
                  have HK6 := Aside0.mk (show ¬ ok6 p8 ∧ ¬ ok6 p9 ∧ ¬ ok6 p10 from ⟨fun h => (hk6 _ h).2 (.inl rfl), fun h => (hk6 _ h).2 (.inr (.inl rfl)), fun h => (hk6 _ h).2 (.inr (.inr rfl))⟩)
                  have HK8 := Aside0.mk (show ¬ ok8 p8 ∧ ¬ ok8 p9 ∧ ¬ ok8 p10 from ⟨fun h => (hk8 _ h).2 (.inl rfl), fun h => (hk8 _ h).2 (.inr (.inl rfl)), fun h => (hk8 _ h).2 (.inr (.inr rfl))⟩)
                  have HP := Aside0.mk (And.intro (hn8 _ rfl).2 (And.intro (hn9 _ rfl).2 (hn10 _ rfl).2))
                  have HB8 := Aside0.mk (show Blk w1 p8 26 ZT from (hn8 _ rfl).1)
                  have HB9 := Aside0.mk (show Blk w1 p9 26 ZT from (hn9 _ rfl).1)
                  have HB10 := Aside0.mk (show Blk w1 p10 26 ZT from (hn10 _ rfl).1)
                  have HR2 := Aside0.mk hf2
                  have HR6 := Aside0.mk hf6
                  have HR8 := Aside0.mk hf8
                  have HBW := Aside0.mk hB1
                  clear hr2 hr6 hr8 hn8 hn9 hn10 hd1 hd2 hd3 hk2 hk6 hk8 hf2 hf6 hf8 hB1 HF
                  refine wpAnyH_ready (rs := [12]) (by kernel_rfl) (by simp) (AllReadyH.cons rfl (fun K hK => ?_) AllReadyH.nil)
                  obtain ⟨y0, y1, y2, y3⟩ := four_cells HB8.out
                  have z0 := blk_frozen HB8.out 0; have z1 := blk_frozen HB8.out 1; have z2 := blk_frozen HB8.out 2; have z3 := blk_frozen HB8.out 3
                  go_simp
                  clear y0 y1 y2 y3 z0 z1 z2 z3
                  have HBW1 := Aside0.mk (fill_below (a := .int .i64 4) (b := .int .u64 0) (c := .slice P2 ([] : List Int).length s2) (d := .slice P3 [x, y].length s3) HBW.out HP.out.1)
                  refine Shut.out hK _ _ (HS.out _ HBW1.out) (fun hHeld => ?_)
                  clear hK K
                  clear HBW; have HBW := HBW1; clear HBW1
                  have HQ8 := Aside0.mk (show Blk (fill4 w1 p8 (.int .i64 4) (.int .u64 0) (.slice P2 ([] : List Int).length s2) (.slice P3 [x, y].length s3)) p8 26 _ from set4 HB8.out (.int .i64 4) (.int .u64 0) (.slice P2 ([] : List Int).length s2) (.slice P3 [x, y].length s3))
                  have HQ9 := Aside0.mk (fill_blk (p := p8) HB9.out (by have := HD.out; omega) : Blk (fill4 w1 p8 (.int .i64 4) (.int .u64 0) (.slice P2 ([] : List Int).length s2) (.slice P3 [x, y].length s3)) p9 26 ZT)
                  have HQ10 := Aside0.mk (fill_blk (p := p8) HB10.out (by have := HD.out; omega) : Blk (fill4 w1 p8 (.int .i64 4) (.int .u64 0) (.slice P2 ([] : List Int).length s2) (.slice P3 [x, y].length s3)) p10 26 ZT)
                  have HT2 := Aside0.mk (show RowsF (fill4 w1 p8 (.int .i64 4) (.int .u64 0) (.slice P2 ([] : List Int).length s2) (.slice P3 [x, y].length s3)) _ _ _ _ _ _ from fill_rows HR2.out HK2.out.1)
                  have HT6 := Aside0.mk (show RowsF (fill4 w1 p8 (.int .i64 4) (.int .u64 0) (.slice P2 ([] : List Int).length s2) (.slice P3 [x, y].length s3)) _ _ _ _ _ _ from fill_rows HR6.out HK6.out.1)
                  have HT8 := Aside0.mk (show RowsF (fill4 w1 p8 (.int .i64 4) (.int .u64 0) (.slice P2 ([] : List Int).length s2) (.slice P3 [x, y].length s3)) _ _ _ _ _ _ from fill_rows HR8.out HK8.out.1)
                  clear HB8 HB9 HB10 HR2 HR6 HR8
                  obtain ⟨x1, hx1⟩ : ∃ W2, fill4 w1 p8 (.int .i64 4) (.int .u64 0) (.slice P2 ([] : List Int).length s2) (.slice P3 [x, y].length s3) = W2 := ⟨_, rfl⟩
                  rw [hx1] at HBW HQ8 HQ9 HQ10 HT2 HT6 HT8
                  simp only [fill4, List.length_nil, List.length_cons, Nat.zero_add, Nat.reduceAdd] at hx1
                  rw [hx1] at hHeld ⊢
                  clear hx1
                  have HB8 := HQ8; have HB9 := HQ9; have HB10 := HQ10; have HR2 := HT2; have HR6 := HT6; have HR8 := HT8; clear HQ8 HQ9 HQ10 HT2 HT6 HT8
                  refine wpAnyH_ready (rs := [13]) (by kernel_rfl) (by simp) (AllReadyH.cons rfl (fun K hK => ?_) AllReadyH.nil)
                  obtain ⟨y0, y1, y2, y3⟩ := four_cells HB9.out
                  have z0 := blk_frozen HB9.out 0; have z1 := blk_frozen HB9.out 1; have z2 := blk_frozen HB9.out 2; have z3 := blk_frozen HB9.out 3
                  go_simp
                  clear y0 y1 y2 y3 z0 z1 z2 z3
                  have HBW1 := Aside0.mk (fill_below (a := .int .i64 5) (b := .int .u64 n) (c := .slice E2 ([] : List Int).length s4) (d := .slice E3 [x, y].length s5) HBW.out HP.out.2.1)
                  refine Shut.out hK _ _ (HS.out _ HBW1.out) (fun hHeld => ?_)
                  clear hK K
                  clear HBW; have HBW := HBW1; clear HBW1
                  have HQ8 := Aside0.mk (show Blk (fill4 x1 p9 (.int .i64 5) (.int .u64 n) (.slice E2 ([] : List Int).length s4) (.slice E3 [x, y].length s5)) p8 26 _ from fill_blk HB8.out (by have := HD.out; omega))
                  have HQ9 := Aside0.mk (show Blk (fill4 x1 p9 (.int .i64 5) (.int .u64 n) (.slice E2 ([] : List Int).length s4) (.slice E3 [x, y].length s5)) p9 26 _ from set4 HB9.out (.int .i64 5) (.int .u64 n) (.slice E2 ([] : List Int).length s4) (.slice E3 [x, y].length s5))
                  have HQ10 := Aside0.mk (fill_blk (p := p9) HB10.out (by have := HD.out; omega) : Blk (fill4 x1 p9 (.int .i64 5) (.int .u64 n) (.slice E2 ([] : List Int).length s4) (.slice E3 [x, y].length s5)) p10 26 ZT)
                  have HT2 := Aside0.mk (show RowsF (fill4 x1 p9 (.int .i64 5) (.int .u64 n) (.slice E2 ([] : List Int).length s4) (.slice E3 [x, y].length s5)) _ _ _ _ _ _ from fill_rows HR2.out HK2.out.2.1)
                  have HT6 := Aside0.mk (show RowsF (fill4 x1 p9 (.int .i64 5) (.int .u64 n) (.slice E2 ([] : List Int).length s4) (.slice E3 [x, y].length s5)) _ _ _ _ _ _ from fill_rows HR6.out HK6.out.2.1)
                  have HT8 := Aside0.mk (show RowsF (fill4 x1 p9 (.int .i64 5) (.int .u64 n) (.slice E2 ([] : List Int).length s4) (.slice E3 [x, y].length s5)) _ _ _ _ _ _ from fill_rows HR8.out HK8.out.2.1)
                  clear HB8 HB9 HB10 HR2 HR6 HR8
                  obtain ⟨x2, hx2⟩ : ∃ W2, fill4 x1 p9 (.int .i64 5) (.int .u64 n) (.slice E2 ([] : List Int).length s4) (.slice E3 [x, y].length s5) = W2 := ⟨_, rfl⟩
                  rw [hx2] at HBW HQ8 HQ9 HQ10 HT2 HT6 HT8
                  simp only [fill4, List.length_nil, List.length_cons, Nat.zero_add, Nat.reduceAdd] at hx2
                  rw [hx2] at hHeld ⊢
                  clear hx2
                  have HB8 := HQ8; have HB9 := HQ9; have HB10 := HQ10; have HR2 := HT2; have HR6 := HT6; have HR8 := HT8; clear HQ8 HQ9 HQ10 HT2 HT6 HT8
                  refine wpAnyH_ready (rs := [14]) (by kernel_rfl) (by simp) (AllReadyH.cons rfl (fun K hK => ?_) AllReadyH.nil)
                  obtain ⟨y0, y1, y2, y3⟩ := four_cells HB10.out
                  have z0 := blk_frozen HB10.out 0; have z1 := blk_frozen HB10.out 1; have z2 := blk_frozen HB10.out 2; have z3 := blk_frozen HB10.out 3
                  go_simp
                  clear y0 y1 y2 y3 z0 z1 z2 z3
                  have HBW1 := Aside0.mk (fill_below (a := .int .i64 6) (b := .int .u64 0) (c := .slice H2 ([] : List Int).length s6) (d := .slice H3 [x].length s7) HBW.out HP.out.2.2)
                  refine Shut.out hK _ _ (HS.out _ HBW1.out) (fun hHeld => ?_)
                  clear hK K
                  clear HBW; have HBW := HBW1; clear HBW1
                  have HQ8 := Aside0.mk (show Blk (fill4 x2 p10 (.int .i64 6) (.int .u64 0) (.slice H2 ([] : List Int).length s6) (.slice H3 [x].length s7)) p8 26 _ from fill_blk HB8.out (by have := HD.out; omega))
                  have HQ9 := Aside0.mk (show Blk (fill4 x2 p10 (.int .i64 6) (.int .u64 0) (.slice H2 ([] : List Int).length s6) (.slice H3 [x].length s7)) p9 26 _ from fill_blk HB9.out (by have := HD.out; omega))
                  have HQ10 := Aside0.mk (show Blk (fill4 x2 p10 (.int .i64 6) (.int .u64 0) (.slice H2 ([] : List Int).length s6) (.slice H3 [x].length s7)) p10 26 _ from set4 HB10.out (.int .i64 6) (.int .u64 0) (.slice H2 ([] : List Int).length s6) (.slice H3 [x].length s7))
                  have HT2 := Aside0.mk (show RowsF (fill4 x2 p10 (.int .i64 6) (.int .u64 0) (.slice H2 ([] : List Int).length s6) (.slice H3 [x].length s7)) _ _ _ _ _ _ from fill_rows HR2.out HK2.out.2.2)
                  have HT6 := Aside0.mk (show RowsF (fill4 x2 p10 (.int .i64 6) (.int .u64 0) (.slice H2 ([] : List Int).length s6) (.slice H3 [x].length s7)) _ _ _ _ _ _ from fill_rows HR6.out HK6.out.2.2)
                  have HT8 := Aside0.mk (show RowsF (fill4 x2 p10 (.int .i64 6) (.int .u64 0) (.slice H2 ([] : List Int).length s6) (.slice H3 [x].length s7)) _ _ _ _ _ _ from fill_rows HR8.out HK8.out.2.2)
                  clear HB8 HB9 HB10 HR2 HR6 HR8
                  obtain ⟨x3, hx3⟩ : ∃ W2, fill4 x2 p10 (.int .i64 6) (.int .u64 0) (.slice H2 ([] : List Int).length s6) (.slice H3 [x].length s7) = W2 := ⟨_, rfl⟩
                  rw [hx3] at HBW HQ8 HQ9 HQ10 HT2 HT6 HT8
                  simp only [fill4, List.length_nil, List.length_cons, Nat.zero_add, Nat.reduceAdd] at hx3
                  rw [hx3] at hHeld ⊢
                  clear hx3
                  have HB8 := HQ8; have HB9 := HQ9; have HB10 := HQ10; have HR2 := HT2; have HR6 := HT6; have HR8 := HT8; clear HQ8 HQ9 HQ10 HT2 HT6 HT8
                  refine wpAnyH_done (by kernel_rfl) ?_ _
                  go_wp2_with (fail)
                  go_meet
                  case rel => exact ⟨p8, p9, p10, rfl, rfl, rfl, ⟨⟨_, _, _, _, HB8.out, HR2.out.now⟩, ⟨_, _, _, _, HB9.out, HR6.out.now⟩, ⟨_, _, _, _, HB10.out, HR8.out.now⟩⟩, HLV.out.below HBW.out, below_step HB.out HBW.out, HX.out.below HBW.out, HY.out.below HBW.out, HRX.out.below HBW.out, HRY.out.below HBW.out⟩
        case rest =>
          obtain ⟨p, q, r, rfl, rfl, rfl, ⟨h1, h2, h3⟩, hl, hb, hx, hy, hrx, hry⟩ := hcut
          obtain ⟨P2, s2, P3, s3, hp, hpr⟩ := h1
          obtain ⟨Q2, t2, Q3, t3, hq, hqr⟩ := h2
          obtain ⟨R2, u2, R3, u3, hr, hrr⟩ := h3
          obtain ⟨AL, cL, rfl, hl1, hl2⟩ := hl
          clear HB HX HY HRX HRY HLV HFX HFY HF0 HS
          have HP := Aside0.mk (show Blk wc p 26 #[.int .i64 4, .int .u64 0, .slice P2 0 s2, .slice P3 2 s3] from hp)
          have HQ := Aside0.mk (show Blk wc q 26 #[.int .i64 5, .int .u64 n, .slice Q2 0 t2, .slice Q3 2 t3] from hq)
          have HR := Aside0.mk (show Blk wc r 26 #[.int .i64 6, .int .u64 0, .slice R2 0 u2, .slice R3 1 u3] from hr)
          have HPR := Aside0.mk hpr
          have HQR := Aside0.mk hqr
          have HRR := Aside0.mk hrr
          have HB := Aside0.mk hb
          have HX := Aside0.mk hx
          have HY := Aside0.mk hy
          have HRX := Aside0.mk hrx
          have HRY := Aside0.mk hry
          have HLL := Aside0.mk (show LsV wc (partsV x) (.slice AL (partsV x).length cL) from ⟨AL, cL, rfl, hl1, hl2⟩)
          clear hp hpr hq hqr hr hrr hb hx hy hrx hry hl1 hl2
          have p0 := HP.out.cell 0; have p1 := HP.out.cell 1; have p2 := HP.out.cell 2; have p3 := HP.out.cell 3; simp only [List.getElem?_toArray, List.getElem?_cons_zero, List.getElem?_cons_succ] at p0 p1 p2 p3
          have x0 := HX.out.cell 0; have x1 := HX.out.cell 1; have x2 := HX.out.cell 2; have x3 := HX.out.cell 3; simp only [List.getElem?_toArray, List.getElem?_cons_zero, List.getElem?_cons_succ] at x0 x1 x2 x3
          have y0 := HY.out.cell 0; have y1 := HY.out.cell 1; have y2 := HY.out.cell 2; have y3 := HY.out.cell 3; simp only [List.getElem?_toArray, List.getElem?_cons_zero, List.getElem?_cons_succ] at y0 y1 y2 y3
          go_wp2_with (fail)
          refine (same_lit2 4 0 HLEN.out.1 HLEN.out.2 HPR.out HRX.out HRY.out).mono ?_; rintro e w5 ⟨rfl, hb⟩; have n0_ := Aside0.mk (below_step HB.out hb); have n1_ := Aside0.mk (HX.out.below hb); have n2_ := Aside0.mk (HY.out.below hb); have n3_ := Aside0.mk (HRX.out.below hb); have n4_ := Aside0.mk (HRY.out.below hb); have n5_ := Aside0.mk (HLL.out.below hb); have n6_ := Aside0.mk (HQ.out.below hb); have n7_ := Aside0.mk (HR.out.below hb); have n8_ := Aside0.mk (HQR.out.below hb); have n9_ := Aside0.mk (HRR.out.below hb); clear HB HX HY HRX HRY HLL HQ HR HQR HRR; have HB := n0_; have HX := n1_; have HY := n2_; have HRX := n3_; have HRY := n4_; have HLL := n5_; have HQ := n6_; have HR := n7_; have HQR := n8_; have HRR := n9_; clear n0_ n1_ n2_ n3_ n4_ n5_ n6_ n7_ n8_ n9_; have q0 := HQ.out.cell 0; have q1 := HQ.out.cell 1; have q2 := HQ.out.cell 2; have q3 := HQ.out.cell 3; simp only [List.getElem?_toArray, List.getElem?_cons_zero, List.getElem?_cons_succ] at q0 q1 q2 q3; have xa0 := HX.out.cell 0; have xa1 := HX.out.cell 1; have xa2 := HX.out.cell 2; have xa3 := HX.out.cell 3; simp only [List.getElem?_toArray, List.getElem?_cons_zero, List.getElem?_cons_succ] at xa0 xa1 xa2 xa3; have ya0 := HY.out.cell 0; have ya1 := HY.out.cell 1; have ya2 := HY.out.cell 2; have ya3 := HY.out.cell 3; simp only [List.getElem?_toArray, List.getElem?_cons_zero, List.getElem?_cons_succ] at ya0 ya1 ya2 ya3; clear hb
          go_wp2_with (fail)
          refine (same_lit2 5 n HLEN.out.1 HLEN.out.2 HQR.out HRX.out HRY.out).mono ?_; rintro e w6 ⟨rfl, hb⟩; have n0_ := Aside0.mk (below_step HB.out hb); have n1_ := Aside0.mk (HX.out.below hb); have n2_ := Aside0.mk (HY.out.below hb); have n3_ := Aside0.mk (HRX.out.below hb); have n4_ := Aside0.mk (HRY.out.below hb); have n5_ := Aside0.mk (HLL.out.below hb); have n6_ := Aside0.mk (HQ.out.below hb); have n7_ := Aside0.mk (HR.out.below hb); have n8_ := Aside0.mk (HQR.out.below hb); have n9_ := Aside0.mk (HRR.out.below hb); clear HB HX HY HRX HRY HLL HQ HR HQR HRR; have HB := n0_; have HX := n1_; have HY := n2_; have HRX := n3_; have HRY := n4_; have HLL := n5_; have HQ := n6_; have HR := n7_; have HQR := n8_; have HRR := n9_; clear n0_ n1_ n2_ n3_ n4_ n5_ n6_ n7_ n8_ n9_; have r0 := HR.out.cell 0; have r1 := HR.out.cell 1; have r2 := HR.out.cell 2; have r3 := HR.out.cell 3; simp only [List.getElem?_toArray, List.getElem?_cons_zero, List.getElem?_cons_succ] at r0 r1 r2 r3; have xb0 := HX.out.cell 0; have xb1 := HX.out.cell 1; have xb2 := HX.out.cell 2; have xb3 := HX.out.cell 3; simp only [List.getElem?_toArray, List.getElem?_cons_zero, List.getElem?_cons_succ] at xb0 xb1 xb2 xb3; clear hb
          go_wp2_with (fail)
          refine (same_lit1 6 0 HLEN.out.1 HRR.out HRX.out).mono ?_; rintro e w7 ⟨rfl, hb⟩; have n0_ := Aside0.mk (below_step HB.out hb); have n1_ := Aside0.mk (HX.out.below hb); have n2_ := Aside0.mk (HY.out.below hb); have n3_ := Aside0.mk (HRX.out.below hb); have n4_ := Aside0.mk (HRY.out.below hb); have n5_ := Aside0.mk (HLL.out.below hb); clear HB HX HY HRX HRY HLL; have HB := n0_; have HX := n1_; have HY := n2_; have HRX := n3_; have HRY := n4_; have HLL := n5_; clear n0_ n1_ n2_ n3_ n4_ n5_; clear hb
          go_upto_region 9 with (fail)
          have hu23 := Try.underlying23
          have hbd := below_drew1 (Below.refl w7.heap.size w7)
          have n0_ := Aside0.mk (below_step HB.out hbd); have n1_ := Aside0.mk (HX.out.below hbd); have n2_ := Aside0.mk (HY.out.below hbd); have n3_ := Aside0.mk (HRX.out.below hbd); have n4_ := Aside0.mk (HRY.out.below hbd); have n5_ := Aside0.mk (HLL.out.below hbd); clear HB HX HY HRX HRY HLL; have HB := n0_; have HX := n1_; have HY := n2_; have HRX := n3_; have HRY := n4_; have HLL := n5_; clear n0_ n1_ n2_ n3_ n4_ n5_
          clear hbd
          refine wp_region_held_drew (S := fun w' => (w'.cell? ⟨w.heap.size, 0, none⟩ = some (.int .i64 x.f0) ∧ w'.cell? ⟨w.heap.size, 1, none⟩ = some (.int .u64 x.f1) ∧ w'.cell? ⟨w.heap.size, 2, none⟩ = some (.slice A2 x.f2.length c2) ∧ w'.cell? ⟨w.heap.size, 3, none⟩ = some (.slice A3 x.f3.length c3)) ∧ (w'.cell? ⟨w.heap.size + 1, 0, none⟩ = some (.int .i64 y.f0) ∧ w'.cell? ⟨w.heap.size + 1, 1, none⟩ = some (.int .u64 y.f1) ∧ w'.cell? ⟨w.heap.size + 1, 2, none⟩ = some (.slice B2 y.f2.length d2) ∧ w'.cell? ⟨w.heap.size + 1, 3, none⟩ = some (.slice B3 y.f3.length d3))) (by kernel_rfl) (And.intro (four_cells HX.out) (four_cells HY.out)) (fun hHeld => ?_)
          (refine wpAnyH_take (i := 0) (v := ?_) rfl (by kernel_rfl) (by kernel_rfl) (by kernel_rfl) (fun _ _ _ h => h) (Or.inl ⟨by rfl, ?_⟩) (by assumption) ?_; (case' refine_2 => (intro w hSw; go_simp; try with_reducible rfl)); (try simp only [Act.put, List.getElem_toArray, List.getElem_cons_zero, List.getElem_cons_succ, List.setIfInBounds_toArray, List.set_cons_zero, List.set_cons_succ]))
          (refine wpAnyH_take (i := 2) (v := ?_) rfl (by kernel_rfl) (by kernel_rfl) (by kernel_rfl) (fun _ _ _ h => h) (Or.inl ⟨by rfl, ?_⟩) (by assumption) ?_; (case' refine_2 => (intro w hSw; go_simp; try with_reducible rfl)); (try simp only [Act.put, List.getElem_toArray, List.getElem_cons_zero, List.getElem_cons_succ, List.setIfInBounds_toArray, List.set_cons_zero, List.set_cons_succ]))
          (refine wpAnyH_take (i := 3) (v := ?_) rfl (by kernel_rfl) (by kernel_rfl) (by kernel_rfl) (fun _ _ _ h => h) (Or.inl ⟨by rfl, ?_⟩) (by assumption) ?_; (case' refine_2 => (intro w hSw; go_simp; try with_reducible rfl)); (try simp only [Act.put, List.getElem_toArray, List.getElem_cons_zero, List.getElem_cons_succ, List.setIfInBounds_toArray, List.set_cons_zero, List.set_cons_succ]))
          (refine wpAnyH_ready (rs := [1]) (by kernel_rfl) (by simp) (AllReadyH.cons rfl (fun K hK => ?_) AllReadyH.nil); go_simp)
          refine (name_c n _).mono ?_
          rintro e ww ⟨v, rfl, ht, hb⟩
          have n0_ := Aside0.mk (below_step HB.out hb); have n1_ := Aside0.mk (HX.out.below hb); have n2_ := Aside0.mk (HY.out.below hb); have n3_ := Aside0.mk (HRX.out.below hb); have n4_ := Aside0.mk (HRY.out.below hb); have n5_ := Aside0.mk (HLL.out.below hb); clear HB HX HY HRX HRY HLL; have HB := n0_; have HX := n1_; have HY := n2_; have HRX := n3_; have HRY := n4_; have HLL := n5_; clear n0_ n1_ n2_ n3_ n4_ n5_
          obtain ⟨N2, Ns2, N3, Ns3, rfl, ht⟩ := ht; have HN := Aside0.mk ht; clear ht
          clear hb
          (refine Shut.out hK _ _ (And.intro (four_cells HX.out) (four_cells HY.out)) (fun hHeld => ?_); clear hK K; (try simp only [Act.put, List.getElem_toArray, List.getElem_cons_zero, List.getElem_cons_succ, List.setIfInBounds_toArray, List.set_cons_zero, List.set_cons_succ]))
          (refine wpAnyH_ready (rs := [4]) (by kernel_rfl) (by simp) (AllReadyH.cons rfl (fun K hK => ?_) AllReadyH.nil); go_simp)
          refine (same_flat 1 n HN.out).mono ?_
          rintro e ww ⟨rfl, hb⟩
          have n0_ := Aside0.mk (below_step HB.out hb); have n1_ := Aside0.mk (HX.out.below hb); have n2_ := Aside0.mk (HY.out.below hb); have n3_ := Aside0.mk (HRX.out.below hb); have n4_ := Aside0.mk (HRY.out.below hb); have n5_ := Aside0.mk (HLL.out.below hb); clear HB HX HY HRX HRY HLL; have HB := n0_; have HX := n1_; have HY := n2_; have HRX := n3_; have HRY := n4_; have HLL := n5_; clear n0_ n1_ n2_ n3_ n4_ n5_
          clear hb
          (refine Shut.out hK _ _ (And.intro (four_cells HX.out) (four_cells HY.out)) (fun hHeld => ?_); clear hK K; (try simp only [Act.put, List.getElem_toArray, List.getElem_cons_zero, List.getElem_cons_succ, List.setIfInBounds_toArray, List.set_cons_zero, List.set_cons_succ]))
          (refine wpAnyH_take (i := 5) (v := ?_) rfl (by kernel_rfl) (by kernel_rfl) (by kernel_rfl) (fun _ _ _ h => h) (Or.inl ⟨by rfl, ?_⟩) (by assumption) ?_; (case' refine_2 => (intro w hSw; go_simp; try with_reducible rfl)); (try simp only [Act.put, List.getElem_toArray, List.getElem_cons_zero, List.getElem_cons_succ, List.setIfInBounds_toArray, List.set_cons_zero, List.set_cons_succ]))
          (refine wpAnyH_take (i := 6) (v := ?_) rfl (by kernel_rfl) (by kernel_rfl) (by kernel_rfl) (fun _ _ _ h => h) (Or.inl ⟨by rfl, ?_⟩) (by assumption) ?_; (case' refine_2 => (intro w hSw; go_simp; try with_reducible rfl)); (try simp only [Act.put, List.getElem_toArray, List.getElem_cons_zero, List.getElem_cons_succ, List.setIfInBounds_toArray, List.set_cons_zero, List.set_cons_succ]))
          (refine wpAnyH_take (i := 7) (v := ?_) rfl (by kernel_rfl) (by kernel_rfl) (by kernel_rfl) (fun _ _ _ h => h) (Or.inl ⟨by rfl, ?_⟩) (by assumption) ?_; (case' refine_2 => (intro w hSw; go_simp; try with_reducible rfl)); (try simp only [Act.put, List.getElem_toArray, List.getElem_cons_zero, List.getElem_cons_succ, List.setIfInBounds_toArray, List.set_cons_zero, List.set_cons_succ]))
          (refine wpAnyH_take (i := 9) (v := ?_) rfl (by kernel_rfl) (by kernel_rfl) (by kernel_rfl) (fun _ _ _ h => h) (Or.inl ⟨by rfl, ?_⟩) (by assumption) ?_; (case' refine_2 => (intro w hSw; go_simp; try with_reducible rfl)); (try simp only [Act.put, List.getElem_toArray, List.getElem_cons_zero, List.getElem_cons_succ, List.setIfInBounds_toArray, List.set_cons_zero, List.set_cons_succ]))
          (refine wpAnyH_take (i := 10) (v := ?_) rfl (by kernel_rfl) (by kernel_rfl) (by kernel_rfl) (fun _ _ _ h => h) (Or.inl ⟨by rfl, ?_⟩) (by assumption) ?_; (case' refine_2 => (intro w hSw; go_simp; try with_reducible rfl)); (try simp only [Act.put, List.getElem_toArray, List.getElem_cons_zero, List.getElem_cons_succ, List.setIfInBounds_toArray, List.set_cons_zero, List.set_cons_succ]))
          (refine wpAnyH_ready (rs := [8]) (by kernel_rfl) (by simp) (AllReadyH.cons rfl (fun K hK => ?_) AllReadyH.nil); go_simp)
          refine (key_c n _).mono ?_
          rintro e ww ⟨v, rfl, ht, hb⟩
          have n0_ := Aside0.mk (below_step HB.out hb); have n1_ := Aside0.mk (HX.out.below hb); have n2_ := Aside0.mk (HY.out.below hb); have n3_ := Aside0.mk (HRX.out.below hb); have n4_ := Aside0.mk (HRY.out.below hb); have n5_ := Aside0.mk (HLL.out.below hb); clear HB HX HY HRX HRY HLL; have HB := n0_; have HX := n1_; have HY := n2_; have HRX := n3_; have HRY := n4_; have HLL := n5_; clear n0_ n1_ n2_ n3_ n4_ n5_
          obtain ⟨K2, Ks2, K3, Ks3, rfl, ht⟩ := ht; have HK := Aside0.mk ht; clear ht
          clear hb
          (refine Shut.out hK _ _ (And.intro (four_cells HX.out) (four_cells HY.out)) (fun hHeld => ?_); clear hK K; (try simp only [Act.put, List.getElem_toArray, List.getElem_cons_zero, List.getElem_cons_succ, List.setIfInBounds_toArray, List.set_cons_zero, List.set_cons_succ]))
          (refine wpAnyH_ready (rs := [11]) (by kernel_rfl) (by simp) (AllReadyH.cons rfl (fun K hK => ?_) AllReadyH.nil); go_simp)
          refine (same_flat 2 n HK.out).mono ?_
          rintro e ww ⟨rfl, hb⟩
          have n0_ := Aside0.mk (below_step HB.out hb); have n1_ := Aside0.mk (HX.out.below hb); have n2_ := Aside0.mk (HY.out.below hb); have n3_ := Aside0.mk (HRX.out.below hb); have n4_ := Aside0.mk (HRY.out.below hb); have n5_ := Aside0.mk (HLL.out.below hb); clear HB HX HY HRX HRY HLL; have HB := n0_; have HX := n1_; have HY := n2_; have HRX := n3_; have HRY := n4_; have HLL := n5_; clear n0_ n1_ n2_ n3_ n4_ n5_
          clear hb
          (refine Shut.out hK _ _ (And.intro (four_cells HX.out) (four_cells HY.out)) (fun hHeld => ?_); clear hK K; (try simp only [Act.put, List.getElem_toArray, List.getElem_cons_zero, List.getElem_cons_succ, List.setIfInBounds_toArray, List.set_cons_zero, List.set_cons_succ]))
          (refine wpAnyH_take (i := 12) (v := ?_) rfl (by kernel_rfl) (by kernel_rfl) (by kernel_rfl) (fun _ _ _ h => h) (Or.inl ⟨by rfl, ?_⟩) (by assumption) ?_; (case' refine_2 => (intro w hSw; go_simp; try with_reducible rfl)); (try simp only [Act.put, List.getElem_toArray, List.getElem_cons_zero, List.getElem_cons_succ, List.setIfInBounds_toArray, List.set_cons_zero, List.set_cons_succ]))
          (refine wpAnyH_take (i := 13) (v := ?_) rfl (by kernel_rfl) (by kernel_rfl) (by kernel_rfl) (fun _ _ _ h => h) (Or.inl ⟨by rfl, ?_⟩) (by assumption) ?_; (case' refine_2 => (intro w hSw; go_simp; try with_reducible rfl)); (try simp only [Act.put, List.getElem_toArray, List.getElem_cons_zero, List.getElem_cons_succ, List.setIfInBounds_toArray, List.set_cons_zero, List.set_cons_succ]))
          (refine wpAnyH_take (i := 14) (v := ?_) rfl (by kernel_rfl) (by kernel_rfl) (by kernel_rfl) (fun _ _ _ h => h) (Or.inl ⟨by rfl, ?_⟩) (by assumption) ?_; (case' refine_2 => (intro w hSw; go_simp; try with_reducible rfl)); (try simp only [Act.put, List.getElem_toArray, List.getElem_cons_zero, List.getElem_cons_succ, List.setIfInBounds_toArray, List.set_cons_zero, List.set_cons_succ]))
          (refine wpAnyH_take (i := 15) (v := ?_) rfl (by kernel_rfl) (by kernel_rfl) (by kernel_rfl) (fun _ _ _ h => h) (Or.inl ⟨by rfl, ?_⟩) (by assumption) ?_; (case' refine_2 => (intro w hSw; go_simp; try with_reducible rfl)); (try simp only [Act.put, List.getElem_toArray, List.getElem_cons_zero, List.getElem_cons_succ, List.setIfInBounds_toArray, List.set_cons_zero, List.set_cons_succ]))
          (refine wpAnyH_take (i := 16) (v := ?_) rfl (by kernel_rfl) (by kernel_rfl) (by kernel_rfl) (fun _ _ _ h => h) (Or.inl ⟨by rfl, ?_⟩) (by assumption) ?_; (case' refine_2 => (intro w hSw; go_simp; try with_reducible rfl)); (try simp only [Act.put, List.getElem_toArray, List.getElem_cons_zero, List.getElem_cons_succ, List.setIfInBounds_toArray, List.set_cons_zero, List.set_cons_succ]))
          (refine wpAnyH_take (i := 18) (v := ?_) rfl (by kernel_rfl) (by kernel_rfl) (by kernel_rfl) (fun _ _ _ h => h) (Or.inl ⟨by rfl, ?_⟩) (by assumption) ?_; (case' refine_2 => (intro w hSw; go_simp; try with_reducible rfl)); (try simp only [Act.put, List.getElem_toArray, List.getElem_cons_zero, List.getElem_cons_succ, List.setIfInBounds_toArray, List.set_cons_zero, List.set_cons_succ]))
          (refine wpAnyH_take (i := 19) (v := ?_) rfl (by kernel_rfl) (by kernel_rfl) (by kernel_rfl) (fun _ _ _ h => h) (Or.inl ⟨by rfl, ?_⟩) (by assumption) ?_; (case' refine_2 => (intro w hSw; go_simp; try with_reducible rfl)); (try simp only [Act.put, List.getElem_toArray, List.getElem_cons_zero, List.getElem_cons_succ, List.setIfInBounds_toArray, List.set_cons_zero, List.set_cons_succ]))
          (refine wpAnyH_take (i := 20) (v := ?_) rfl (by kernel_rfl) (by kernel_rfl) (by kernel_rfl) (fun _ _ _ h => h) (Or.inl ⟨by rfl, ?_⟩) (by assumption) ?_; (case' refine_2 => (intro w hSw; go_simp; try with_reducible rfl)); (try simp only [Act.put, List.getElem_toArray, List.getElem_cons_zero, List.getElem_cons_succ, List.setIfInBounds_toArray, List.set_cons_zero, List.set_cons_succ]))
          (refine wpAnyH_ready (rs := [17]) (by kernel_rfl) (by simp) (AllReadyH.cons rfl (fun K hK => ?_) AllReadyH.nil); go_simp)
          refine (data_c HRX.out ((wfT_eq x).1 HW.out.1).2.1 HLEN.out.1).mono ?_
          rintro e ww ⟨v, rfl, ht, hb⟩
          have n0_ := Aside0.mk (below_step HB.out hb); have n1_ := Aside0.mk (HX.out.below hb); have n2_ := Aside0.mk (HY.out.below hb); have n3_ := Aside0.mk (HRX.out.below hb); have n4_ := Aside0.mk (HRY.out.below hb); have n5_ := Aside0.mk (HLL.out.below hb); clear HB HX HY HRX HRY HLL; have HB := n0_; have HX := n1_; have HY := n2_; have HRX := n3_; have HRY := n4_; have HLL := n5_; clear n0_ n1_ n2_ n3_ n4_ n5_
          obtain ⟨D2, Ds2, D3, Ds3, rfl, ht⟩ := ht; have HD := Aside0.mk ht; clear ht
          clear hb
          (refine Shut.out hK _ _ (And.intro (four_cells HX.out) (four_cells HY.out)) (fun hHeld => ?_); clear hK K; (try simp only [Act.put, List.getElem_toArray, List.getElem_cons_zero, List.getElem_cons_succ, List.setIfInBounds_toArray, List.set_cons_zero, List.set_cons_succ]))
          (refine wpAnyH_ready (rs := [21]) (by kernel_rfl) (by simp) (AllReadyH.cons rfl (fun K hK => ?_) AllReadyH.nil); go_simp)
          refine (same_data HLEN.out.1 HD.out HRX.out).mono ?_
          rintro e ww ⟨rfl, hb⟩
          have n0_ := Aside0.mk (below_step HB.out hb); have n1_ := Aside0.mk (HX.out.below hb); have n2_ := Aside0.mk (HY.out.below hb); have n3_ := Aside0.mk (HRX.out.below hb); have n4_ := Aside0.mk (HRY.out.below hb); have n5_ := Aside0.mk (HLL.out.below hb); clear HB HX HY HRX HRY HLL; have HB := n0_; have HX := n1_; have HY := n2_; have HRX := n3_; have HRY := n4_; have HLL := n5_; clear n0_ n1_ n2_ n3_ n4_ n5_
          clear hb
          (refine Shut.out hK _ _ (And.intro (four_cells HX.out) (four_cells HY.out)) (fun hHeld => ?_); clear hK K; (try simp only [Act.put, List.getElem_toArray, List.getElem_cons_zero, List.getElem_cons_succ, List.setIfInBounds_toArray, List.set_cons_zero, List.set_cons_succ]))
          (refine wpAnyH_take (i := 22) (v := ?_) rfl (by kernel_rfl) (by kernel_rfl) (by kernel_rfl) (fun _ _ _ h => h) (Or.inl ⟨by rfl, ?_⟩) (by assumption) ?_; (case' refine_2 => (intro w hSw; go_simp; try with_reducible rfl)); (try simp only [Act.put, List.getElem_toArray, List.getElem_cons_zero, List.getElem_cons_succ, List.setIfInBounds_toArray, List.set_cons_zero, List.set_cons_succ]))
          (refine wpAnyH_take (i := 23) (v := ?_) rfl (by kernel_rfl) (by kernel_rfl) (by kernel_rfl) (fun _ _ _ h => h) (Or.inl ⟨by rfl, ?_⟩) (by assumption) ?_; (case' refine_2 => (intro w hSw; go_simp; try with_reducible rfl)); (try simp only [Act.put, List.getElem_toArray, List.getElem_cons_zero, List.getElem_cons_succ, List.setIfInBounds_toArray, List.set_cons_zero, List.set_cons_succ]))
          refine wpAnyH_done (by kernel_rfl) ?_ _
          go_upto_region 11 with (fail)
          obtain ⟨bb, hbb⟩ : ∃ b, eqT x y = b := ⟨_, rfl⟩
          have hbd := below_drew1 (Below.refl ww.heap.size ww)
          have n0_ := Aside0.mk (below_step HB.out hbd); have n1_ := Aside0.mk (HX.out.below hbd); have n2_ := Aside0.mk (HY.out.below hbd); have n3_ := Aside0.mk (HRX.out.below hbd); have n4_ := Aside0.mk (HRY.out.below hbd); have n5_ := Aside0.mk (HLL.out.below hbd); clear HB HX HY HRX HRY HLL; have HB := n0_; have HX := n1_; have HY := n2_; have HRX := n3_; have HRY := n4_; have HLL := n5_; clear n0_ n1_ n2_ n3_ n4_ n5_
          clear hbd
          refine wp_region_held_drew (S := fun w' => (w'.cell? ⟨w.heap.size, 0, none⟩ = some (.int .i64 x.f0) ∧ w'.cell? ⟨w.heap.size, 1, none⟩ = some (.int .u64 x.f1) ∧ w'.cell? ⟨w.heap.size, 2, none⟩ = some (.slice A2 x.f2.length c2) ∧ w'.cell? ⟨w.heap.size, 3, none⟩ = some (.slice A3 x.f3.length c3)) ∧ (w'.cell? ⟨w.heap.size + 1, 0, none⟩ = some (.int .i64 y.f0) ∧ w'.cell? ⟨w.heap.size + 1, 1, none⟩ = some (.int .u64 y.f1) ∧ w'.cell? ⟨w.heap.size + 1, 2, none⟩ = some (.slice B2 y.f2.length d2) ∧ w'.cell? ⟨w.heap.size + 1, 3, none⟩ = some (.slice B3 y.f3.length d3))) (by kernel_rfl) (And.intro (four_cells HX.out) (four_cells HY.out)) (fun hHeld => ?_)
          (refine wpAnyH_take (i := 0) (v := ?_) rfl (by kernel_rfl) (by kernel_rfl) (by kernel_rfl) (fun _ _ _ h => h) (Or.inl ⟨by rfl, ?_⟩) (by assumption) ?_; (case' refine_2 => (intro w hSw; go_simp; try with_reducible rfl)); (try simp only [Act.put, List.getElem_toArray, List.getElem_cons_zero, List.getElem_cons_succ, List.setIfInBounds_toArray, List.set_cons_zero, List.set_cons_succ]))
          (refine wpAnyH_take (i := 1) (v := ?_) rfl (by kernel_rfl) (by kernel_rfl) (by kernel_rfl) (fun _ _ _ h => h) (Or.inl ⟨by rfl, ?_⟩) (by assumption) ?_; (case' refine_2 => (intro w hSw; go_simp; try with_reducible rfl)); (try simp only [Act.put, List.getElem_toArray, List.getElem_cons_zero, List.getElem_cons_succ, List.setIfInBounds_toArray, List.set_cons_zero, List.set_cons_succ]))
          (refine wpAnyH_take (i := 3) (v := ?_) rfl (by kernel_rfl) (by kernel_rfl) (by kernel_rfl) (fun _ _ _ h => h) (Or.inl ⟨by rfl, ?_⟩) (by assumption) ?_; (case' refine_2 => (intro w hSw; go_simp; try with_reducible rfl)); (try simp only [Act.put, List.getElem_toArray, List.getElem_cons_zero, List.getElem_cons_succ, List.setIfInBounds_toArray, List.set_cons_zero, List.set_cons_succ]))
          (refine wpAnyH_take (i := 4) (v := ?_) rfl (by kernel_rfl) (by kernel_rfl) (by kernel_rfl) (fun _ _ _ h => h) (Or.inl ⟨by rfl, ?_⟩) (by assumption) ?_; (case' refine_2 => (intro w hSw; go_simp; try with_reducible rfl)); (try simp only [Act.put, List.getElem_toArray, List.getElem_cons_zero, List.getElem_cons_succ, List.setIfInBounds_toArray, List.set_cons_zero, List.set_cons_succ]))
          (refine wpAnyH_ready (rs := [2]) (by kernel_rfl) (by simp) (AllReadyH.cons rfl (fun K hK => ?_) AllReadyH.nil); go_simp)
          refine (same2_c HW.out.1 HW.out.2 HRX.out HRY.out).mono ?_
          rintro e ww ⟨rfl, hb⟩
          have n0_ := Aside0.mk (below_step HB.out hb); have n1_ := Aside0.mk (HX.out.below hb); have n2_ := Aside0.mk (HY.out.below hb); have n3_ := Aside0.mk (HRX.out.below hb); have n4_ := Aside0.mk (HRY.out.below hb); have n5_ := Aside0.mk (HLL.out.below hb); clear HB HX HY HRX HRY HLL; have HB := n0_; have HX := n1_; have HY := n2_; have HRX := n3_; have HRY := n4_; have HLL := n5_; clear n0_ n1_ n2_ n3_ n4_ n5_
          rw [hbb]
          clear hb
          (refine Shut.out hK _ _ (And.intro (four_cells HX.out) (four_cells HY.out)) (fun hHeld => ?_); clear hK K; (try simp only [Act.put, List.getElem_toArray, List.getElem_cons_zero, List.getElem_cons_succ, List.setIfInBounds_toArray, List.set_cons_zero, List.set_cons_succ]))
          (refine wpAnyH_ready (rs := [5]) (by kernel_rfl) (by simp) (AllReadyH.cons rfl (fun K hK => ?_) AllReadyH.nil); go_simp)
          refine (rsame_c x y HLEN.out.1 A2 c2 A3 c3 B2 d2 B3 d3 _ HRX.out HRY.out).mono ?_
          rintro e ww ⟨rfl, hb⟩
          have n0_ := Aside0.mk (below_step HB.out hb); have n1_ := Aside0.mk (HX.out.below hb); have n2_ := Aside0.mk (HY.out.below hb); have n3_ := Aside0.mk (HRX.out.below hb); have n4_ := Aside0.mk (HRY.out.below hb); have n5_ := Aside0.mk (HLL.out.below hb); clear HB HX HY HRX HRY HLL; have HB := n0_; have HX := n1_; have HY := n2_; have HRX := n3_; have HRY := n4_; have HLL := n5_; clear n0_ n1_ n2_ n3_ n4_ n5_
          rw [hbb]
          clear hb
          (refine Shut.out hK _ _ (And.intro (four_cells HX.out) (four_cells HY.out)) (fun hHeld => ?_); clear hK K; (try simp only [Act.put, List.getElem_toArray, List.getElem_cons_zero, List.getElem_cons_succ, List.setIfInBounds_toArray, List.set_cons_zero, List.set_cons_succ]))
          (refine wpAnyH_take (i := 6) (v := ?_) rfl (by kernel_rfl) (by kernel_rfl) (by kernel_rfl) (fun _ _ _ h => h) (Or.inl ⟨by rfl, ?_⟩) (by assumption) ?_; (case' refine_2 => (intro w hSw; go_simp; try with_reducible rfl)); (try simp only [Act.put, List.getElem_toArray, List.getElem_cons_zero, List.getElem_cons_succ, List.setIfInBounds_toArray, List.set_cons_zero, List.set_cons_succ]))
          (refine wpAnyH_take (i := 7) (v := ?_) rfl (by kernel_rfl) (by kernel_rfl) (by kernel_rfl) (fun _ _ _ h => h) (Or.inl ⟨by rfl, ?_⟩) (by assumption) ?_; (case' refine_2 => (intro w hSw; go_simp; try with_reducible rfl)); (try simp only [Act.put, List.getElem_toArray, List.getElem_cons_zero, List.getElem_cons_succ, List.setIfInBounds_toArray, List.set_cons_zero, List.set_cons_succ]))
          (refine wpAnyH_take (i := 8) (v := ?_) rfl (by kernel_rfl) (by kernel_rfl) (by kernel_rfl) (fun _ _ _ h => h) (Or.inl ⟨by rfl, ?_⟩) (by assumption) ?_; (case' refine_2 => (intro w hSw; go_simp; try with_reducible rfl)); (try simp only [Act.put, List.getElem_toArray, List.getElem_cons_zero, List.getElem_cons_succ, List.setIfInBounds_toArray, List.set_cons_zero, List.set_cons_succ]))
          (refine wpAnyH_take (i := 9) (v := ?_) rfl (by kernel_rfl) (by kernel_rfl) (by kernel_rfl) (fun _ _ _ h => h) (Or.inl ⟨by rfl, ?_⟩) (by assumption) ?_; (case' refine_2 => (intro w hSw; go_simp; try with_reducible rfl)); (try simp only [Act.put, List.getElem_toArray, List.getElem_cons_zero, List.getElem_cons_succ, List.setIfInBounds_toArray, List.set_cons_zero, List.set_cons_succ]))
          (refine wpAnyH_ready (rs := [10]) (by kernel_rfl) (by simp) (AllReadyH.cons rfl (fun K hK => ?_) AllReadyH.nil); go_simp)
          refine (same2_c HW.out.1 HW.out.1 HRX.out HRX.out).mono ?_
          rintro e ww ⟨rfl, hb⟩
          have n0_ := Aside0.mk (below_step HB.out hb); have n1_ := Aside0.mk (HX.out.below hb); have n2_ := Aside0.mk (HY.out.below hb); have n3_ := Aside0.mk (HRX.out.below hb); have n4_ := Aside0.mk (HRY.out.below hb); have n5_ := Aside0.mk (HLL.out.below hb); clear HB HX HY HRX HRY HLL; have HB := n0_; have HX := n1_; have HY := n2_; have HRX := n3_; have HRY := n4_; have HLL := n5_; clear n0_ n1_ n2_ n3_ n4_ n5_
          rw [eqT_refl]
          clear hb
          (refine Shut.out hK _ _ (And.intro (four_cells HX.out) (four_cells HY.out)) (fun hHeld => ?_); clear hK K; (try simp only [Act.put, List.getElem_toArray, List.getElem_cons_zero, List.getElem_cons_succ, List.setIfInBounds_toArray, List.set_cons_zero, List.set_cons_succ]))
          (refine wpAnyH_take (i := 11) (v := ?_) rfl (by kernel_rfl) (by kernel_rfl) (by kernel_rfl) (fun _ _ _ h => h) (Or.inl ⟨by rfl, ?_⟩) (by assumption) ?_; (case' refine_2 => (intro w hSw; go_simp; try with_reducible rfl)); (try simp only [Act.put, List.getElem_toArray, List.getElem_cons_zero, List.getElem_cons_succ, List.setIfInBounds_toArray, List.set_cons_zero, List.set_cons_succ]))
          (refine wpAnyH_take (i := 12) (v := ?_) rfl (by kernel_rfl) (by kernel_rfl) (by kernel_rfl) (fun _ _ _ h => h) (Or.inl ⟨by rfl, ?_⟩) (by assumption) ?_; (case' refine_2 => (intro w hSw; go_simp; try with_reducible rfl)); (try simp only [Act.put, List.getElem_toArray, List.getElem_cons_zero, List.getElem_cons_succ, List.setIfInBounds_toArray, List.set_cons_zero, List.set_cons_succ]))
          (refine wpAnyH_take (i := 13) (v := ?_) rfl (by kernel_rfl) (by kernel_rfl) (by kernel_rfl) (fun _ _ _ h => h) (Or.inl ⟨by rfl, ?_⟩) (by assumption) ?_; (case' refine_2 => (intro w hSw; go_simp; try with_reducible rfl)); (try simp only [Act.put, List.getElem_toArray, List.getElem_cons_zero, List.getElem_cons_succ, List.setIfInBounds_toArray, List.set_cons_zero, List.set_cons_succ]))
          (refine wpAnyH_take (i := 15) (v := ?_) rfl (by kernel_rfl) (by kernel_rfl) (by kernel_rfl) (fun _ _ _ h => h) (Or.inl ⟨by rfl, ?_⟩) (by assumption) ?_; (case' refine_2 => (intro w hSw; go_simp; try with_reducible rfl)); (try simp only [Act.put, List.getElem_toArray, List.getElem_cons_zero, List.getElem_cons_succ, List.setIfInBounds_toArray, List.set_cons_zero, List.set_cons_succ]))
          (refine wpAnyH_ready (rs := [14]) (by kernel_rfl) (by simp) (AllReadyH.cons rfl (fun K hK => ?_) AllReadyH.nil); go_simp)
          refine (parts2_c HW.out.1 HRX.out).mono ?_
          rintro e ww ⟨v, rfl, hl, hb⟩
          have n0_ := Aside0.mk (below_step HB.out hb); have n1_ := Aside0.mk (HX.out.below hb); have n2_ := Aside0.mk (HY.out.below hb); have n3_ := Aside0.mk (HRX.out.below hb); have n4_ := Aside0.mk (HRY.out.below hb); have n5_ := Aside0.mk (HLL.out.below hb); clear HB HX HY HRX HRY HLL; have HB := n0_; have HX := n1_; have HY := n2_; have HRX := n3_; have HRY := n4_; have HLL := n5_; clear n0_ n1_ n2_ n3_ n4_ n5_
          obtain ⟨AP, cP, rfl, hl1, hl2⟩ := hl; have HPP := Aside0.mk (And.intro hl1 hl2); clear hl1 hl2; obtain ⟨AQ, cQ, eQ, hq1, hq2⟩ := HLL.out; injection eQ with e1 _ e3; subst e1 e3; have HQQ := Aside0.mk (And.intro hq1 hq2); clear hq1 hq2
          clear hb
          (refine Shut.out hK _ _ (And.intro (four_cells HX.out) (four_cells HY.out)) (fun hHeld => ?_); clear hK K; (try simp only [Act.put, List.getElem_toArray, List.getElem_cons_zero, List.getElem_cons_succ, List.setIfInBounds_toArray, List.set_cons_zero, List.set_cons_succ]))
          (refine wpAnyH_ready (rs := [16]) (by kernel_rfl) (by simp) (AllReadyH.cons rfl (fun K hK => ?_) AllReadyH.nil); go_simp)
          refine (sameall_c HLEN.out.1 HPP.out.1 HPP.out.2 HQQ.out.1 HQQ.out.2).mono ?_
          rintro e ww ⟨rfl, hb⟩
          have n0_ := Aside0.mk (below_step HB.out hb); have n1_ := Aside0.mk (HX.out.below hb); have n2_ := Aside0.mk (HY.out.below hb); have n3_ := Aside0.mk (HRX.out.below hb); have n4_ := Aside0.mk (HRY.out.below hb); have n5_ := Aside0.mk (HLL.out.below hb); clear HB HX HY HRX HRY HLL; have HB := n0_; have HX := n1_; have HY := n2_; have HRX := n3_; have HRY := n4_; have HLL := n5_; clear n0_ n1_ n2_ n3_ n4_ n5_
          clear hb
          (refine Shut.out hK _ _ (And.intro (four_cells HX.out) (four_cells HY.out)) (fun hHeld => ?_); clear hK K; (try simp only [Act.put, List.getElem_toArray, List.getElem_cons_zero, List.getElem_cons_succ, List.setIfInBounds_toArray, List.set_cons_zero, List.set_cons_succ]))
          (refine wpAnyH_take (i := 17) (v := ?_) rfl (by kernel_rfl) (by kernel_rfl) (by kernel_rfl) (fun _ _ _ h => h) (Or.inl ⟨by rfl, ?_⟩) (by assumption) ?_; (case' refine_2 => (intro w hSw; go_simp; try with_reducible rfl)); (try simp only [Act.put, List.getElem_toArray, List.getElem_cons_zero, List.getElem_cons_succ, List.setIfInBounds_toArray, List.set_cons_zero, List.set_cons_succ]))
          (refine wpAnyH_take (i := 18) (v := ?_) rfl (by kernel_rfl) (by kernel_rfl) (by kernel_rfl) (fun _ _ _ h => h) (Or.inl ⟨by rfl, ?_⟩) (by assumption) ?_; (case' refine_2 => (intro w hSw; go_simp; try with_reducible rfl)); (try simp only [Act.put, List.getElem_toArray, List.getElem_cons_zero, List.getElem_cons_succ, List.setIfInBounds_toArray, List.set_cons_zero, List.set_cons_succ]))
          (refine wpAnyH_ready (rs := [19]) (by kernel_rfl) (by simp) (AllReadyH.cons rfl (fun K hK => ?_) AllReadyH.nil); go_simp)
          refine (live_c _).mono ?_
          rintro e ww ⟨rfl, hb⟩
          have n0_ := Aside0.mk (below_step HB.out hb); have n1_ := Aside0.mk (HX.out.below hb); have n2_ := Aside0.mk (HY.out.below hb); have n3_ := Aside0.mk (HRX.out.below hb); have n4_ := Aside0.mk (HRY.out.below hb); have n5_ := Aside0.mk (HLL.out.below hb); clear HB HX HY HRX HRY HLL; have HB := n0_; have HX := n1_; have HY := n2_; have HRX := n3_; have HRY := n4_; have HLL := n5_; clear n0_ n1_ n2_ n3_ n4_ n5_
          clear hb
          (refine Shut.out hK _ _ (And.intro (four_cells HX.out) (four_cells HY.out)) (fun hHeld => ?_); clear hK K; (try simp only [Act.put, List.getElem_toArray, List.getElem_cons_zero, List.getElem_cons_succ, List.setIfInBounds_toArray, List.set_cons_zero, List.set_cons_succ]))
          (refine wpAnyH_take (i := 20) (v := ?_) rfl (by kernel_rfl) (by kernel_rfl) (by kernel_rfl) (fun _ _ _ h => h) (Or.inl ⟨by rfl, ?_⟩) (by assumption) ?_; (case' refine_2 => (intro w hSw; go_simp; try with_reducible rfl)); (try simp only [Act.put, List.getElem_toArray, List.getElem_cons_zero, List.getElem_cons_succ, List.setIfInBounds_toArray, List.set_cons_zero, List.set_cons_succ]))
          (refine wpAnyH_take (i := 21) (v := ?_) rfl (by kernel_rfl) (by kernel_rfl) (by kernel_rfl) (fun _ _ _ h => h) (Or.inl ⟨by rfl, ?_⟩) (by assumption) ?_; (case' refine_2 => (intro w hSw; go_simp; try with_reducible rfl)); (try simp only [Act.put, List.getElem_toArray, List.getElem_cons_zero, List.getElem_cons_succ, List.setIfInBounds_toArray, List.set_cons_zero, List.set_cons_succ]))
          refine wpAnyH_done (by kernel_rfl) ?_ _
          go_wp2_with (fail)
          go_ret
          exact ⟨rfl, HB.out⟩
      | true =>
        go_upto_region 6 with (first
          | (go_at_call 10; refine (HS1.out A2 c2 A3 c3 _ HRX.out).mono ?_; rintro e w1 ⟨rfl, hb⟩; have n0_ := Aside0.mk (below_step HB.out hb); have n1_ := Aside0.mk (HX.out.below hb); have n2_ := Aside0.mk (HY.out.below hb); have n3_ := Aside0.mk (HRX.out.below hb); have n4_ := Aside0.mk (HRY.out.below hb); clear HB HX HY HRX HRY; have HB := n0_; have HX := n1_; have HY := n2_; have HRX := n3_; have HRY := n4_; clear n0_ n1_ n2_ n3_ n4_; have y0 := HY.out.cell 0; have y1 := HY.out.cell 1; have y2 := HY.out.cell 2; have y3 := HY.out.cell 3; simp only [List.getElem?_toArray, List.getElem?_cons_zero, List.getElem?_cons_succ] at y0 y1 y2 y3; clear hb)
          | (go_at_call 10; refine (HS2.out B2 d2 B3 d3 _ HRY.out).mono ?_; rintro e w2 ⟨rfl, hb⟩; have n0_ := Aside0.mk (below_step HB.out hb); have n1_ := Aside0.mk (HX.out.below hb); have n2_ := Aside0.mk (HY.out.below hb); have n3_ := Aside0.mk (HRX.out.below hb); have n4_ := Aside0.mk (HRY.out.below hb); clear HB HX HY HRX HRY; have HB := n0_; have HX := n1_; have HY := n2_; have HRX := n3_; have HRY := n4_; clear n0_ n1_ n2_ n3_ n4_; have z0 := HX.out.cell 0; have z1 := HX.out.cell 1; have z2 := HX.out.cell 2; have z3 := HX.out.cell 3; simp only [List.getElem?_toArray, List.getElem?_cons_zero, List.getElem?_cons_succ] at z0 z1 z2 z3; clear hb)
          | (go_at_call 17; refine (may2_c x HRX.out).mono ?_; rintro e w3 ⟨rfl, hb⟩; rw [hm]; have n0_ := Aside0.mk (below_step HB.out hb); have n1_ := Aside0.mk (HX.out.below hb); have n2_ := Aside0.mk (HY.out.below hb); have n3_ := Aside0.mk (HRX.out.below hb); have n4_ := Aside0.mk (HRY.out.below hb); clear HB HX HY HRX HRY; have HB := n0_; have HX := n1_; have HY := n2_; have HRX := n3_; have HRY := n4_; clear n0_ n1_ n2_ n3_ n4_; have u0 := HX.out.cell 0; have u1 := HX.out.cell 1; have u2 := HX.out.cell 2; have u3 := HX.out.cell 3; simp only [List.getElem?_toArray, List.getElem?_cons_zero, List.getElem?_cons_succ] at u0 u1 u2 u3; clear hb)
          | (go_at_call 32; refine (rparts_c hm HRX.out).mono ?_; rintro e w4 ⟨v, rfl, hl, hb⟩; have n0_ := Aside0.mk (below_step HB.out hb); have n1_ := Aside0.mk (HX.out.below hb); have n2_ := Aside0.mk (HY.out.below hb); have n3_ := Aside0.mk (HRX.out.below hb); have n4_ := Aside0.mk (HRY.out.below hb); clear HB HX HY HRX HRY; have HB := n0_; have HX := n1_; have HY := n2_; have HRX := n3_; have HRY := n4_; clear n0_ n1_ n2_ n3_ n4_; have HLV := Aside0.mk hl; clear hl hb))
        obtain ⟨W, hW⟩ : ∃ W, w4 = W := ⟨_, rfl⟩
        rw [hW] at HB HX HY HRX HRY HLV ⊢
        clear hW
        have HFX := Aside0.mk (rowsF_of HRX.out (Below.refl W.heap.size W))
        have HFY := Aside0.mk (rowsF_of HRY.out (Below.refl W.heap.size W))
        have HF0 := Aside0.mk (fact0 x y n (below_drew1 (Below.refl W.heap.size W)))
        have HS := Aside0.mk (fun (W1 : World) (h : Below W.heap.size W W1) => And.intro (four_cells (HX.out.below h)) (four_cells (HY.out.below h)))
        go_cut [8, 9, 10] from 24 to 32 (fun s8 s9 s10 wx => ∃ p q r, s8 = .pointer (some ⟨p, 0, none⟩) ∧ s9 = .pointer (some ⟨q, 0, none⟩) ∧ s10 = .pointer (some ⟨r, 0, none⟩) ∧ (BoxT wx p ⟨4, 0, [], [x, y]⟩ ∧ BoxT wx q ⟨5, n, [], [x, y]⟩ ∧ BoxT wx r ⟨6, 0, [], [x]⟩) ∧ LsV wx (partsV x) (v) ∧ Below w.heap.size w wx ∧ Blk wx w.heap.size 26 #[.int .i64 x.f0, .int .u64 x.f1, .slice A2 x.f2.length c2, .slice A3 x.f3.length c3] ∧ Blk wx (w.heap.size + 1) 26 #[.int .i64 y.f0, .int .u64 y.f1, .slice B2 y.f2.length d2, .slice B3 y.f3.length d3] ∧ RowsT wx x A2 c2 A3 c3 ∧ RowsT wx y B2 d2 B3 d3)
        case first =>
          refine wp_region_held_drew (S := fun w' => (w'.cell? ⟨w.heap.size, 0, none⟩ = some (.int .i64 x.f0) ∧ w'.cell? ⟨w.heap.size, 1, none⟩ = some (.int .u64 x.f1) ∧ w'.cell? ⟨w.heap.size, 2, none⟩ = some (.slice A2 x.f2.length c2) ∧ w'.cell? ⟨w.heap.size, 3, none⟩ = some (.slice A3 x.f3.length c3)) ∧ (w'.cell? ⟨w.heap.size + 1, 0, none⟩ = some (.int .i64 y.f0) ∧ w'.cell? ⟨w.heap.size + 1, 1, none⟩ = some (.int .u64 y.f1) ∧ w'.cell? ⟨w.heap.size + 1, 2, none⟩ = some (.slice B2 y.f2.length d2) ∧ w'.cell? ⟨w.heap.size + 1, 3, none⟩ = some (.slice B3 y.f3.length d3))) (by kernel_rfl) (HS.out _ HF0.out.1) (fun hHeld => ?_)
          (refine wpAnyH_take (i := 0) (v := ?_) rfl (by kernel_rfl) (by kernel_rfl) (by kernel_rfl) (fun _ _ _ h => h) (Or.inl ⟨by rfl, ?_⟩) (by assumption) ?_; (case' refine_2 => (intro w hSw; go_simp; try with_reducible rfl)); (try simp only [Act.put, List.getElem_toArray, List.getElem_cons_zero, List.getElem_cons_succ, List.setIfInBounds_toArray, List.set_cons_zero, List.set_cons_succ]))
          (refine wpAnyH_take (i := 1) (v := ?_) rfl (by kernel_rfl) (by kernel_rfl) (by kernel_rfl) (fun _ _ _ h => h) (Or.inl ⟨by rfl, ?_⟩) (by assumption) ?_; (case' refine_2 => (intro w hSw; go_simp; try with_reducible rfl)); (try simp only [Act.put, List.getElem_toArray, List.getElem_cons_zero, List.getElem_cons_succ, List.setIfInBounds_toArray, List.set_cons_zero, List.set_cons_succ]))
          (refine wpAnyH_take (i := 3) (v := ?_) rfl (by kernel_rfl) (by kernel_rfl) (by kernel_rfl) (fun _ _ _ h => h) (Or.inl ⟨by rfl, ?_⟩) (by assumption) ?_; (case' refine_2 => (intro w hSw; go_simp; try with_reducible rfl)); (try simp only [Act.put, List.getElem_toArray, List.getElem_cons_zero, List.getElem_cons_succ, List.setIfInBounds_toArray, List.set_cons_zero, List.set_cons_succ]))
          (refine wpAnyH_take (i := 4) (v := ?_) rfl (by kernel_rfl) (by kernel_rfl) (by kernel_rfl) (fun _ _ _ h => h) (Or.inl ⟨by rfl, ?_⟩) (by assumption) ?_; (case' refine_2 => (intro w hSw; go_simp; try with_reducible rfl)); (try simp only [Act.put, List.getElem_toArray, List.getElem_cons_zero, List.getElem_cons_succ, List.setIfInBounds_toArray, List.set_cons_zero, List.set_cons_succ]))
          (refine wpAnyH_take (i := 5) (v := ?_) rfl (by kernel_rfl) (by kernel_rfl) (by kernel_rfl) (fun _ _ _ h => h) (Or.inl ⟨by rfl, ?_⟩) (by assumption) ?_; (case' refine_2 => (intro w hSw; go_simp; try with_reducible rfl)); (try simp only [Act.put, List.getElem_toArray, List.getElem_cons_zero, List.getElem_cons_succ, List.setIfInBounds_toArray, List.set_cons_zero, List.set_cons_succ]))
          (refine wpAnyH_take (i := 7) (v := ?_) rfl (by kernel_rfl) (by kernel_rfl) (by kernel_rfl) (fun _ _ _ h => h) (Or.inl ⟨by rfl, ?_⟩) (by assumption) ?_; (case' refine_2 => (intro w hSw; go_simp; try with_reducible rfl)); (try simp only [Act.put, List.getElem_toArray, List.getElem_cons_zero, List.getElem_cons_succ, List.setIfInBounds_toArray, List.set_cons_zero, List.set_cons_succ]))
          refine gen_act (Φ := fun a => wpAnyH _ _ _ _ _ _ _ a _) (fun a0 ha => ?_)
          refine held_inv (J := fun fuel listed a w' => ∃ v2 v6 v8 p8 p9 p10, fuel = 3 + (nn v2 + nn v6 + nn v8 + nn p8 + nn p9 + nn p10) ∧ listed = lstR v2 v6 v8 p8 p9 p10 ∧ a = put6 a0 v2 v6 v8 p8 p9 p10 ∧ ((v2 = none ∧ v6 = none ∧ v8 = none) ∨ (∃ u, v2 = some u ∧ v6 = none ∧ v8 = none) ∨ (∃ u t, v2 = some u ∧ v6 = some t ∧ v8 = none) ∨ (∃ u t z, v2 = some u ∧ v6 = some t ∧ v8 = some z)) ∧ FactR W x y n v2 v6 v8 p8 p9 p10 w') ?_ _ _ _ _ ⟨none, none, none, none, none, none, rfl, by kernel_rfl, rfl, .inl ⟨rfl, rfl, rfl⟩, HF0.out⟩
          rintro fuel listed a w1 ⟨v2, v6, v8, p8, p9, p10, hfu, hli, hac, hch, hF⟩
          subst hfu hli
          have HF := Aside0.mk hF
          clear hF
          rcases hch with ⟨rfl, rfl, rfl⟩ | ⟨u2, rfl, rfl, rfl⟩ | ⟨u2, u6, rfl, rfl, rfl⟩ | ⟨u2, u6, u8, rfl, rfl, rfl⟩
          ·
            rcases p8 with _ | p8
            ·
              rcases p9 with _ | p9
              ·
                rcases p10 with _ | p10
                ·
                  simp only [ha, put6, putO, Option.map_some, Option.map_none, ptrV, Act.put, List.setIfInBounds_toArray, List.set_cons_zero, List.set_cons_succ] at hac
                  subst hac
                  refine Or.inr ⟨8, [2, 9, 10, 11], rfl, by kernel_rfl, by decide, (AllJ.cons rfl (fun K hK => ?_) (AllJ.cons rfl (fun K hK => ?_) (AllJ.cons rfl (fun K hK => ?_) (AllJ.cons rfl (fun K hK => ?_) AllJ.nil))))⟩
                  · go_simp
                    go_at_call 33
                    refine (pair_c (rowsF_of HRX.out HF.out.1) (rowsF_of HRY.out HF.out.1)).mono ?_
                    rintro e w2 ⟨v, rfl, ht, hb⟩
                    have hN := HF.out.call2 hb ht
                    exact Shut.out hK _ _ (HS.out _ hN.1) ⟨(some v), none, none, none, none, none, rfl, by kernel_rfl, (by simp only [ha, put6, putO, Option.map_some, Option.map_none, ptrV, Act.put, List.setIfInBounds_toArray, List.set_cons_zero, List.set_cons_succ]), .inr (.inl ⟨_, rfl, rfl, rfl⟩), hN⟩
                  · go_simp
                    have hN := HF.out.al8
                    exact Shut.out hK _ _ (HS.out _ hN.1) ⟨none, none, none, some w1.heap.size, none, none, rfl, by kernel_rfl, (by simp only [ha, put6, putO, Option.map_some, Option.map_none, ptrV, Act.put, List.setIfInBounds_toArray, List.set_cons_zero, List.set_cons_succ]), .inl ⟨rfl, rfl, rfl⟩, hN⟩
                  · go_simp
                    have hN := HF.out.al9
                    exact Shut.out hK _ _ (HS.out _ hN.1) ⟨none, none, none, none, some w1.heap.size, none, rfl, by kernel_rfl, (by simp only [ha, put6, putO, Option.map_some, Option.map_none, ptrV, Act.put, List.setIfInBounds_toArray, List.set_cons_zero, List.set_cons_succ]), .inl ⟨rfl, rfl, rfl⟩, hN⟩
                  · go_simp
                    have hN := HF.out.al10
                    exact Shut.out hK _ _ (HS.out _ hN.1) ⟨none, none, none, none, none, some w1.heap.size, rfl, by kernel_rfl, (by simp only [ha, put6, putO, Option.map_some, Option.map_none, ptrV, Act.put, List.setIfInBounds_toArray, List.set_cons_zero, List.set_cons_succ]), .inl ⟨rfl, rfl, rfl⟩, hN⟩
                ·
                  simp only [ha, put6, putO, Option.map_some, Option.map_none, ptrV, Act.put, List.setIfInBounds_toArray, List.set_cons_zero, List.set_cons_succ] at hac
                  subst hac
                  refine Or.inr ⟨7, [2, 9, 10], rfl, by kernel_rfl, by decide, (AllJ.cons rfl (fun K hK => ?_) (AllJ.cons rfl (fun K hK => ?_) (AllJ.cons rfl (fun K hK => ?_) AllJ.nil)))⟩
                  · go_simp
                    go_at_call 33
                    refine (pair_c (rowsF_of HRX.out HF.out.1) (rowsF_of HRY.out HF.out.1)).mono ?_
                    rintro e w2 ⟨v, rfl, ht, hb⟩
                    have hN := HF.out.call2 hb ht
                    exact Shut.out hK _ _ (HS.out _ hN.1) ⟨(some v), none, none, none, none, some p10, rfl, by kernel_rfl, (by simp only [ha, put6, putO, Option.map_some, Option.map_none, ptrV, Act.put, List.setIfInBounds_toArray, List.set_cons_zero, List.set_cons_succ]), .inr (.inl ⟨_, rfl, rfl, rfl⟩), hN⟩
                  · go_simp
                    have hN := HF.out.al8
                    exact Shut.out hK _ _ (HS.out _ hN.1) ⟨none, none, none, some w1.heap.size, none, some p10, rfl, by kernel_rfl, (by simp only [ha, put6, putO, Option.map_some, Option.map_none, ptrV, Act.put, List.setIfInBounds_toArray, List.set_cons_zero, List.set_cons_succ]), .inl ⟨rfl, rfl, rfl⟩, hN⟩
                  · go_simp
                    have hN := HF.out.al9
                    exact Shut.out hK _ _ (HS.out _ hN.1) ⟨none, none, none, none, some w1.heap.size, some p10, rfl, by kernel_rfl, (by simp only [ha, put6, putO, Option.map_some, Option.map_none, ptrV, Act.put, List.setIfInBounds_toArray, List.set_cons_zero, List.set_cons_succ]), .inl ⟨rfl, rfl, rfl⟩, hN⟩
              ·
                rcases p10 with _ | p10
                ·
                  simp only [ha, put6, putO, Option.map_some, Option.map_none, ptrV, Act.put, List.setIfInBounds_toArray, List.set_cons_zero, List.set_cons_succ] at hac
                  subst hac
                  refine Or.inr ⟨7, [2, 9, 11], rfl, by kernel_rfl, by decide, (AllJ.cons rfl (fun K hK => ?_) (AllJ.cons rfl (fun K hK => ?_) (AllJ.cons rfl (fun K hK => ?_) AllJ.nil)))⟩
                  · go_simp
                    go_at_call 33
                    refine (pair_c (rowsF_of HRX.out HF.out.1) (rowsF_of HRY.out HF.out.1)).mono ?_
                    rintro e w2 ⟨v, rfl, ht, hb⟩
                    have hN := HF.out.call2 hb ht
                    exact Shut.out hK _ _ (HS.out _ hN.1) ⟨(some v), none, none, none, some p9, none, rfl, by kernel_rfl, (by simp only [ha, put6, putO, Option.map_some, Option.map_none, ptrV, Act.put, List.setIfInBounds_toArray, List.set_cons_zero, List.set_cons_succ]), .inr (.inl ⟨_, rfl, rfl, rfl⟩), hN⟩
                  · go_simp
                    have hN := HF.out.al8
                    exact Shut.out hK _ _ (HS.out _ hN.1) ⟨none, none, none, some w1.heap.size, some p9, none, rfl, by kernel_rfl, (by simp only [ha, put6, putO, Option.map_some, Option.map_none, ptrV, Act.put, List.setIfInBounds_toArray, List.set_cons_zero, List.set_cons_succ]), .inl ⟨rfl, rfl, rfl⟩, hN⟩
                  · go_simp
                    have hN := HF.out.al10
                    exact Shut.out hK _ _ (HS.out _ hN.1) ⟨none, none, none, none, some p9, some w1.heap.size, rfl, by kernel_rfl, (by simp only [ha, put6, putO, Option.map_some, Option.map_none, ptrV, Act.put, List.setIfInBounds_toArray, List.set_cons_zero, List.set_cons_succ]), .inl ⟨rfl, rfl, rfl⟩, hN⟩
                ·
                  simp only [ha, put6, putO, Option.map_some, Option.map_none, ptrV, Act.put, List.setIfInBounds_toArray, List.set_cons_zero, List.set_cons_succ] at hac
                  subst hac
                  refine Or.inr ⟨6, [2, 9], rfl, by kernel_rfl, by decide, (AllJ.cons rfl (fun K hK => ?_) (AllJ.cons rfl (fun K hK => ?_) AllJ.nil))⟩
                  · go_simp
                    go_at_call 33
                    refine (pair_c (rowsF_of HRX.out HF.out.1) (rowsF_of HRY.out HF.out.1)).mono ?_
                    rintro e w2 ⟨v, rfl, ht, hb⟩
                    have hN := HF.out.call2 hb ht
                    exact Shut.out hK _ _ (HS.out _ hN.1) ⟨(some v), none, none, none, some p9, some p10, rfl, by kernel_rfl, (by simp only [ha, put6, putO, Option.map_some, Option.map_none, ptrV, Act.put, List.setIfInBounds_toArray, List.set_cons_zero, List.set_cons_succ]), .inr (.inl ⟨_, rfl, rfl, rfl⟩), hN⟩
                  · go_simp
                    have hN := HF.out.al8
                    exact Shut.out hK _ _ (HS.out _ hN.1) ⟨none, none, none, some w1.heap.size, some p9, some p10, rfl, by kernel_rfl, (by simp only [ha, put6, putO, Option.map_some, Option.map_none, ptrV, Act.put, List.setIfInBounds_toArray, List.set_cons_zero, List.set_cons_succ]), .inl ⟨rfl, rfl, rfl⟩, hN⟩
            ·
              rcases p9 with _ | p9
              ·
                rcases p10 with _ | p10
                ·
                  simp only [ha, put6, putO, Option.map_some, Option.map_none, ptrV, Act.put, List.setIfInBounds_toArray, List.set_cons_zero, List.set_cons_succ] at hac
                  subst hac
                  refine Or.inr ⟨7, [2, 10, 11], rfl, by kernel_rfl, by decide, (AllJ.cons rfl (fun K hK => ?_) (AllJ.cons rfl (fun K hK => ?_) (AllJ.cons rfl (fun K hK => ?_) AllJ.nil)))⟩
                  · go_simp
                    go_at_call 33
                    refine (pair_c (rowsF_of HRX.out HF.out.1) (rowsF_of HRY.out HF.out.1)).mono ?_
                    rintro e w2 ⟨v, rfl, ht, hb⟩
                    have hN := HF.out.call2 hb ht
                    exact Shut.out hK _ _ (HS.out _ hN.1) ⟨(some v), none, none, some p8, none, none, rfl, by kernel_rfl, (by simp only [ha, put6, putO, Option.map_some, Option.map_none, ptrV, Act.put, List.setIfInBounds_toArray, List.set_cons_zero, List.set_cons_succ]), .inr (.inl ⟨_, rfl, rfl, rfl⟩), hN⟩
                  · go_simp
                    have hN := HF.out.al9
                    exact Shut.out hK _ _ (HS.out _ hN.1) ⟨none, none, none, some p8, some w1.heap.size, none, rfl, by kernel_rfl, (by simp only [ha, put6, putO, Option.map_some, Option.map_none, ptrV, Act.put, List.setIfInBounds_toArray, List.set_cons_zero, List.set_cons_succ]), .inl ⟨rfl, rfl, rfl⟩, hN⟩
                  · go_simp
                    have hN := HF.out.al10
                    exact Shut.out hK _ _ (HS.out _ hN.1) ⟨none, none, none, some p8, none, some w1.heap.size, rfl, by kernel_rfl, (by simp only [ha, put6, putO, Option.map_some, Option.map_none, ptrV, Act.put, List.setIfInBounds_toArray, List.set_cons_zero, List.set_cons_succ]), .inl ⟨rfl, rfl, rfl⟩, hN⟩
                ·
                  simp only [ha, put6, putO, Option.map_some, Option.map_none, ptrV, Act.put, List.setIfInBounds_toArray, List.set_cons_zero, List.set_cons_succ] at hac
                  subst hac
                  refine Or.inr ⟨6, [2, 10], rfl, by kernel_rfl, by decide, (AllJ.cons rfl (fun K hK => ?_) (AllJ.cons rfl (fun K hK => ?_) AllJ.nil))⟩
                  · go_simp
                    go_at_call 33
                    refine (pair_c (rowsF_of HRX.out HF.out.1) (rowsF_of HRY.out HF.out.1)).mono ?_
                    rintro e w2 ⟨v, rfl, ht, hb⟩
                    have hN := HF.out.call2 hb ht
                    exact Shut.out hK _ _ (HS.out _ hN.1) ⟨(some v), none, none, some p8, none, some p10, rfl, by kernel_rfl, (by simp only [ha, put6, putO, Option.map_some, Option.map_none, ptrV, Act.put, List.setIfInBounds_toArray, List.set_cons_zero, List.set_cons_succ]), .inr (.inl ⟨_, rfl, rfl, rfl⟩), hN⟩
                  · go_simp
                    have hN := HF.out.al9
                    exact Shut.out hK _ _ (HS.out _ hN.1) ⟨none, none, none, some p8, some w1.heap.size, some p10, rfl, by kernel_rfl, (by simp only [ha, put6, putO, Option.map_some, Option.map_none, ptrV, Act.put, List.setIfInBounds_toArray, List.set_cons_zero, List.set_cons_succ]), .inl ⟨rfl, rfl, rfl⟩, hN⟩
              ·
                rcases p10 with _ | p10
                ·
                  simp only [ha, put6, putO, Option.map_some, Option.map_none, ptrV, Act.put, List.setIfInBounds_toArray, List.set_cons_zero, List.set_cons_succ] at hac
                  subst hac
                  refine Or.inr ⟨6, [2, 11], rfl, by kernel_rfl, by decide, (AllJ.cons rfl (fun K hK => ?_) (AllJ.cons rfl (fun K hK => ?_) AllJ.nil))⟩
                  · go_simp
                    go_at_call 33
                    refine (pair_c (rowsF_of HRX.out HF.out.1) (rowsF_of HRY.out HF.out.1)).mono ?_
                    rintro e w2 ⟨v, rfl, ht, hb⟩
                    have hN := HF.out.call2 hb ht
                    exact Shut.out hK _ _ (HS.out _ hN.1) ⟨(some v), none, none, some p8, some p9, none, rfl, by kernel_rfl, (by simp only [ha, put6, putO, Option.map_some, Option.map_none, ptrV, Act.put, List.setIfInBounds_toArray, List.set_cons_zero, List.set_cons_succ]), .inr (.inl ⟨_, rfl, rfl, rfl⟩), hN⟩
                  · go_simp
                    have hN := HF.out.al10
                    exact Shut.out hK _ _ (HS.out _ hN.1) ⟨none, none, none, some p8, some p9, some w1.heap.size, rfl, by kernel_rfl, (by simp only [ha, put6, putO, Option.map_some, Option.map_none, ptrV, Act.put, List.setIfInBounds_toArray, List.set_cons_zero, List.set_cons_succ]), .inl ⟨rfl, rfl, rfl⟩, hN⟩
                ·
                  simp only [ha, put6, putO, Option.map_some, Option.map_none, ptrV, Act.put, List.setIfInBounds_toArray, List.set_cons_zero, List.set_cons_succ] at hac
                  subst hac
                  refine Or.inr ⟨5, [2], rfl, by kernel_rfl, by decide, (AllJ.cons rfl (fun K hK => ?_) AllJ.nil)⟩
                  · go_simp
                    go_at_call 33
                    refine (pair_c (rowsF_of HRX.out HF.out.1) (rowsF_of HRY.out HF.out.1)).mono ?_
                    rintro e w2 ⟨v, rfl, ht, hb⟩
                    have hN := HF.out.call2 hb ht
                    exact Shut.out hK _ _ (HS.out _ hN.1) ⟨(some v), none, none, some p8, some p9, some p10, rfl, by kernel_rfl, (by simp only [ha, put6, putO, Option.map_some, Option.map_none, ptrV, Act.put, List.setIfInBounds_toArray, List.set_cons_zero, List.set_cons_succ]), .inr (.inl ⟨_, rfl, rfl, rfl⟩), hN⟩
          ·
            rcases p8 with _ | p8
            ·
              rcases p9 with _ | p9
              ·
                rcases p10 with _ | p10
                ·
                  simp only [ha, put6, putO, Option.map_some, Option.map_none, ptrV, Act.put, List.setIfInBounds_toArray, List.set_cons_zero, List.set_cons_succ] at hac
                  subst hac
                  refine Or.inr ⟨7, [6, 9, 10, 11], rfl, by kernel_rfl, by decide, (AllJ.cons rfl (fun K hK => ?_) (AllJ.cons rfl (fun K hK => ?_) (AllJ.cons rfl (fun K hK => ?_) (AllJ.cons rfl (fun K hK => ?_) AllJ.nil))))⟩
                  · go_simp
                    go_at_call 34
                    refine (enc_c n (rowsF_of HRX.out HF.out.1) (rowsF_of HRY.out HF.out.1)).mono ?_
                    rintro e w2 ⟨v, rfl, ht, hb⟩
                    have hN := HF.out.call6 hb ht
                    exact Shut.out hK _ _ (HS.out _ hN.1) ⟨(some u2), (some v), none, none, none, none, rfl, by kernel_rfl, (by simp only [ha, put6, putO, Option.map_some, Option.map_none, ptrV, Act.put, List.setIfInBounds_toArray, List.set_cons_zero, List.set_cons_succ]), .inr (.inr (.inl ⟨_, _, rfl, rfl, rfl⟩)), hN⟩
                  · go_simp
                    have hN := HF.out.al8
                    exact Shut.out hK _ _ (HS.out _ hN.1) ⟨(some u2), none, none, some w1.heap.size, none, none, rfl, by kernel_rfl, (by simp only [ha, put6, putO, Option.map_some, Option.map_none, ptrV, Act.put, List.setIfInBounds_toArray, List.set_cons_zero, List.set_cons_succ]), .inr (.inl ⟨_, rfl, rfl, rfl⟩), hN⟩
                  · go_simp
                    have hN := HF.out.al9
                    exact Shut.out hK _ _ (HS.out _ hN.1) ⟨(some u2), none, none, none, some w1.heap.size, none, rfl, by kernel_rfl, (by simp only [ha, put6, putO, Option.map_some, Option.map_none, ptrV, Act.put, List.setIfInBounds_toArray, List.set_cons_zero, List.set_cons_succ]), .inr (.inl ⟨_, rfl, rfl, rfl⟩), hN⟩
                  · go_simp
                    have hN := HF.out.al10
                    exact Shut.out hK _ _ (HS.out _ hN.1) ⟨(some u2), none, none, none, none, some w1.heap.size, rfl, by kernel_rfl, (by simp only [ha, put6, putO, Option.map_some, Option.map_none, ptrV, Act.put, List.setIfInBounds_toArray, List.set_cons_zero, List.set_cons_succ]), .inr (.inl ⟨_, rfl, rfl, rfl⟩), hN⟩
                ·
                  simp only [ha, put6, putO, Option.map_some, Option.map_none, ptrV, Act.put, List.setIfInBounds_toArray, List.set_cons_zero, List.set_cons_succ] at hac
                  subst hac
                  refine Or.inr ⟨6, [6, 9, 10], rfl, by kernel_rfl, by decide, (AllJ.cons rfl (fun K hK => ?_) (AllJ.cons rfl (fun K hK => ?_) (AllJ.cons rfl (fun K hK => ?_) AllJ.nil)))⟩
                  · go_simp
                    go_at_call 34
                    refine (enc_c n (rowsF_of HRX.out HF.out.1) (rowsF_of HRY.out HF.out.1)).mono ?_
                    rintro e w2 ⟨v, rfl, ht, hb⟩
                    have hN := HF.out.call6 hb ht
                    exact Shut.out hK _ _ (HS.out _ hN.1) ⟨(some u2), (some v), none, none, none, some p10, rfl, by kernel_rfl, (by simp only [ha, put6, putO, Option.map_some, Option.map_none, ptrV, Act.put, List.setIfInBounds_toArray, List.set_cons_zero, List.set_cons_succ]), .inr (.inr (.inl ⟨_, _, rfl, rfl, rfl⟩)), hN⟩
                  · go_simp
                    have hN := HF.out.al8
                    exact Shut.out hK _ _ (HS.out _ hN.1) ⟨(some u2), none, none, some w1.heap.size, none, some p10, rfl, by kernel_rfl, (by simp only [ha, put6, putO, Option.map_some, Option.map_none, ptrV, Act.put, List.setIfInBounds_toArray, List.set_cons_zero, List.set_cons_succ]), .inr (.inl ⟨_, rfl, rfl, rfl⟩), hN⟩
                  · go_simp
                    have hN := HF.out.al9
                    exact Shut.out hK _ _ (HS.out _ hN.1) ⟨(some u2), none, none, none, some w1.heap.size, some p10, rfl, by kernel_rfl, (by simp only [ha, put6, putO, Option.map_some, Option.map_none, ptrV, Act.put, List.setIfInBounds_toArray, List.set_cons_zero, List.set_cons_succ]), .inr (.inl ⟨_, rfl, rfl, rfl⟩), hN⟩
              ·
                rcases p10 with _ | p10
                ·
                  simp only [ha, put6, putO, Option.map_some, Option.map_none, ptrV, Act.put, List.setIfInBounds_toArray, List.set_cons_zero, List.set_cons_succ] at hac
                  subst hac
                  refine Or.inr ⟨6, [6, 9, 11], rfl, by kernel_rfl, by decide, (AllJ.cons rfl (fun K hK => ?_) (AllJ.cons rfl (fun K hK => ?_) (AllJ.cons rfl (fun K hK => ?_) AllJ.nil)))⟩
                  · go_simp
                    go_at_call 34
                    refine (enc_c n (rowsF_of HRX.out HF.out.1) (rowsF_of HRY.out HF.out.1)).mono ?_
                    rintro e w2 ⟨v, rfl, ht, hb⟩
                    have hN := HF.out.call6 hb ht
                    exact Shut.out hK _ _ (HS.out _ hN.1) ⟨(some u2), (some v), none, none, some p9, none, rfl, by kernel_rfl, (by simp only [ha, put6, putO, Option.map_some, Option.map_none, ptrV, Act.put, List.setIfInBounds_toArray, List.set_cons_zero, List.set_cons_succ]), .inr (.inr (.inl ⟨_, _, rfl, rfl, rfl⟩)), hN⟩
                  · go_simp
                    have hN := HF.out.al8
                    exact Shut.out hK _ _ (HS.out _ hN.1) ⟨(some u2), none, none, some w1.heap.size, some p9, none, rfl, by kernel_rfl, (by simp only [ha, put6, putO, Option.map_some, Option.map_none, ptrV, Act.put, List.setIfInBounds_toArray, List.set_cons_zero, List.set_cons_succ]), .inr (.inl ⟨_, rfl, rfl, rfl⟩), hN⟩
                  · go_simp
                    have hN := HF.out.al10
                    exact Shut.out hK _ _ (HS.out _ hN.1) ⟨(some u2), none, none, none, some p9, some w1.heap.size, rfl, by kernel_rfl, (by simp only [ha, put6, putO, Option.map_some, Option.map_none, ptrV, Act.put, List.setIfInBounds_toArray, List.set_cons_zero, List.set_cons_succ]), .inr (.inl ⟨_, rfl, rfl, rfl⟩), hN⟩
                ·
                  simp only [ha, put6, putO, Option.map_some, Option.map_none, ptrV, Act.put, List.setIfInBounds_toArray, List.set_cons_zero, List.set_cons_succ] at hac
                  subst hac
                  refine Or.inr ⟨5, [6, 9], rfl, by kernel_rfl, by decide, (AllJ.cons rfl (fun K hK => ?_) (AllJ.cons rfl (fun K hK => ?_) AllJ.nil))⟩
                  · go_simp
                    go_at_call 34
                    refine (enc_c n (rowsF_of HRX.out HF.out.1) (rowsF_of HRY.out HF.out.1)).mono ?_
                    rintro e w2 ⟨v, rfl, ht, hb⟩
                    have hN := HF.out.call6 hb ht
                    exact Shut.out hK _ _ (HS.out _ hN.1) ⟨(some u2), (some v), none, none, some p9, some p10, rfl, by kernel_rfl, (by simp only [ha, put6, putO, Option.map_some, Option.map_none, ptrV, Act.put, List.setIfInBounds_toArray, List.set_cons_zero, List.set_cons_succ]), .inr (.inr (.inl ⟨_, _, rfl, rfl, rfl⟩)), hN⟩
                  · go_simp
                    have hN := HF.out.al8
                    exact Shut.out hK _ _ (HS.out _ hN.1) ⟨(some u2), none, none, some w1.heap.size, some p9, some p10, rfl, by kernel_rfl, (by simp only [ha, put6, putO, Option.map_some, Option.map_none, ptrV, Act.put, List.setIfInBounds_toArray, List.set_cons_zero, List.set_cons_succ]), .inr (.inl ⟨_, rfl, rfl, rfl⟩), hN⟩
            ·
              rcases p9 with _ | p9
              ·
                rcases p10 with _ | p10
                ·
                  simp only [ha, put6, putO, Option.map_some, Option.map_none, ptrV, Act.put, List.setIfInBounds_toArray, List.set_cons_zero, List.set_cons_succ] at hac
                  subst hac
                  refine Or.inr ⟨6, [6, 10, 11], rfl, by kernel_rfl, by decide, (AllJ.cons rfl (fun K hK => ?_) (AllJ.cons rfl (fun K hK => ?_) (AllJ.cons rfl (fun K hK => ?_) AllJ.nil)))⟩
                  · go_simp
                    go_at_call 34
                    refine (enc_c n (rowsF_of HRX.out HF.out.1) (rowsF_of HRY.out HF.out.1)).mono ?_
                    rintro e w2 ⟨v, rfl, ht, hb⟩
                    have hN := HF.out.call6 hb ht
                    exact Shut.out hK _ _ (HS.out _ hN.1) ⟨(some u2), (some v), none, some p8, none, none, rfl, by kernel_rfl, (by simp only [ha, put6, putO, Option.map_some, Option.map_none, ptrV, Act.put, List.setIfInBounds_toArray, List.set_cons_zero, List.set_cons_succ]), .inr (.inr (.inl ⟨_, _, rfl, rfl, rfl⟩)), hN⟩
                  · go_simp
                    have hN := HF.out.al9
                    exact Shut.out hK _ _ (HS.out _ hN.1) ⟨(some u2), none, none, some p8, some w1.heap.size, none, rfl, by kernel_rfl, (by simp only [ha, put6, putO, Option.map_some, Option.map_none, ptrV, Act.put, List.setIfInBounds_toArray, List.set_cons_zero, List.set_cons_succ]), .inr (.inl ⟨_, rfl, rfl, rfl⟩), hN⟩
                  · go_simp
                    have hN := HF.out.al10
                    exact Shut.out hK _ _ (HS.out _ hN.1) ⟨(some u2), none, none, some p8, none, some w1.heap.size, rfl, by kernel_rfl, (by simp only [ha, put6, putO, Option.map_some, Option.map_none, ptrV, Act.put, List.setIfInBounds_toArray, List.set_cons_zero, List.set_cons_succ]), .inr (.inl ⟨_, rfl, rfl, rfl⟩), hN⟩
                ·
                  simp only [ha, put6, putO, Option.map_some, Option.map_none, ptrV, Act.put, List.setIfInBounds_toArray, List.set_cons_zero, List.set_cons_succ] at hac
                  subst hac
                  refine Or.inr ⟨5, [6, 10], rfl, by kernel_rfl, by decide, (AllJ.cons rfl (fun K hK => ?_) (AllJ.cons rfl (fun K hK => ?_) AllJ.nil))⟩
                  · go_simp
                    go_at_call 34
                    refine (enc_c n (rowsF_of HRX.out HF.out.1) (rowsF_of HRY.out HF.out.1)).mono ?_
                    rintro e w2 ⟨v, rfl, ht, hb⟩
                    have hN := HF.out.call6 hb ht
                    exact Shut.out hK _ _ (HS.out _ hN.1) ⟨(some u2), (some v), none, some p8, none, some p10, rfl, by kernel_rfl, (by simp only [ha, put6, putO, Option.map_some, Option.map_none, ptrV, Act.put, List.setIfInBounds_toArray, List.set_cons_zero, List.set_cons_succ]), .inr (.inr (.inl ⟨_, _, rfl, rfl, rfl⟩)), hN⟩
                  · go_simp
                    have hN := HF.out.al9
                    exact Shut.out hK _ _ (HS.out _ hN.1) ⟨(some u2), none, none, some p8, some w1.heap.size, some p10, rfl, by kernel_rfl, (by simp only [ha, put6, putO, Option.map_some, Option.map_none, ptrV, Act.put, List.setIfInBounds_toArray, List.set_cons_zero, List.set_cons_succ]), .inr (.inl ⟨_, rfl, rfl, rfl⟩), hN⟩
              ·
                rcases p10 with _ | p10
                ·
                  simp only [ha, put6, putO, Option.map_some, Option.map_none, ptrV, Act.put, List.setIfInBounds_toArray, List.set_cons_zero, List.set_cons_succ] at hac
                  subst hac
                  refine Or.inr ⟨5, [6, 11], rfl, by kernel_rfl, by decide, (AllJ.cons rfl (fun K hK => ?_) (AllJ.cons rfl (fun K hK => ?_) AllJ.nil))⟩
                  · go_simp
                    go_at_call 34
                    refine (enc_c n (rowsF_of HRX.out HF.out.1) (rowsF_of HRY.out HF.out.1)).mono ?_
                    rintro e w2 ⟨v, rfl, ht, hb⟩
                    have hN := HF.out.call6 hb ht
                    exact Shut.out hK _ _ (HS.out _ hN.1) ⟨(some u2), (some v), none, some p8, some p9, none, rfl, by kernel_rfl, (by simp only [ha, put6, putO, Option.map_some, Option.map_none, ptrV, Act.put, List.setIfInBounds_toArray, List.set_cons_zero, List.set_cons_succ]), .inr (.inr (.inl ⟨_, _, rfl, rfl, rfl⟩)), hN⟩
                  · go_simp
                    have hN := HF.out.al10
                    exact Shut.out hK _ _ (HS.out _ hN.1) ⟨(some u2), none, none, some p8, some p9, some w1.heap.size, rfl, by kernel_rfl, (by simp only [ha, put6, putO, Option.map_some, Option.map_none, ptrV, Act.put, List.setIfInBounds_toArray, List.set_cons_zero, List.set_cons_succ]), .inr (.inl ⟨_, rfl, rfl, rfl⟩), hN⟩
                ·
                  simp only [ha, put6, putO, Option.map_some, Option.map_none, ptrV, Act.put, List.setIfInBounds_toArray, List.set_cons_zero, List.set_cons_succ] at hac
                  subst hac
                  refine Or.inr ⟨4, [6], rfl, by kernel_rfl, by decide, (AllJ.cons rfl (fun K hK => ?_) AllJ.nil)⟩
                  · go_simp
                    go_at_call 34
                    refine (enc_c n (rowsF_of HRX.out HF.out.1) (rowsF_of HRY.out HF.out.1)).mono ?_
                    rintro e w2 ⟨v, rfl, ht, hb⟩
                    have hN := HF.out.call6 hb ht
                    exact Shut.out hK _ _ (HS.out _ hN.1) ⟨(some u2), (some v), none, some p8, some p9, some p10, rfl, by kernel_rfl, (by simp only [ha, put6, putO, Option.map_some, Option.map_none, ptrV, Act.put, List.setIfInBounds_toArray, List.set_cons_zero, List.set_cons_succ]), .inr (.inr (.inl ⟨_, _, rfl, rfl, rfl⟩)), hN⟩
          ·
            rcases p8 with _ | p8
            ·
              rcases p9 with _ | p9
              ·
                rcases p10 with _ | p10
                ·
                  simp only [ha, put6, putO, Option.map_some, Option.map_none, ptrV, Act.put, List.setIfInBounds_toArray, List.set_cons_zero, List.set_cons_succ] at hac
                  subst hac
                  refine Or.inr ⟨6, [8, 9, 10, 11], rfl, by kernel_rfl, by decide, (AllJ.cons rfl (fun K hK => ?_) (AllJ.cons rfl (fun K hK => ?_) (AllJ.cons rfl (fun K hK => ?_) (AllJ.cons rfl (fun K hK => ?_) AllJ.nil))))⟩
                  · go_simp
                    go_at_call 35
                    refine (hash_c (rowsF_of HRX.out HF.out.1)).mono ?_
                    rintro e w2 ⟨v, rfl, ht, hb⟩
                    have hN := HF.out.call8 hb ht
                    exact Shut.out hK _ _ (HS.out _ hN.1) ⟨(some u2), (some u6), (some v), none, none, none, rfl, by kernel_rfl, (by simp only [ha, put6, putO, Option.map_some, Option.map_none, ptrV, Act.put, List.setIfInBounds_toArray, List.set_cons_zero, List.set_cons_succ]), .inr (.inr (.inr ⟨_, _, _, rfl, rfl, rfl⟩)), hN⟩
                  · go_simp
                    have hN := HF.out.al8
                    exact Shut.out hK _ _ (HS.out _ hN.1) ⟨(some u2), (some u6), none, some w1.heap.size, none, none, rfl, by kernel_rfl, (by simp only [ha, put6, putO, Option.map_some, Option.map_none, ptrV, Act.put, List.setIfInBounds_toArray, List.set_cons_zero, List.set_cons_succ]), .inr (.inr (.inl ⟨_, _, rfl, rfl, rfl⟩)), hN⟩
                  · go_simp
                    have hN := HF.out.al9
                    exact Shut.out hK _ _ (HS.out _ hN.1) ⟨(some u2), (some u6), none, none, some w1.heap.size, none, rfl, by kernel_rfl, (by simp only [ha, put6, putO, Option.map_some, Option.map_none, ptrV, Act.put, List.setIfInBounds_toArray, List.set_cons_zero, List.set_cons_succ]), .inr (.inr (.inl ⟨_, _, rfl, rfl, rfl⟩)), hN⟩
                  · go_simp
                    have hN := HF.out.al10
                    exact Shut.out hK _ _ (HS.out _ hN.1) ⟨(some u2), (some u6), none, none, none, some w1.heap.size, rfl, by kernel_rfl, (by simp only [ha, put6, putO, Option.map_some, Option.map_none, ptrV, Act.put, List.setIfInBounds_toArray, List.set_cons_zero, List.set_cons_succ]), .inr (.inr (.inl ⟨_, _, rfl, rfl, rfl⟩)), hN⟩
                ·
                  simp only [ha, put6, putO, Option.map_some, Option.map_none, ptrV, Act.put, List.setIfInBounds_toArray, List.set_cons_zero, List.set_cons_succ] at hac
                  subst hac
                  refine Or.inr ⟨5, [8, 9, 10], rfl, by kernel_rfl, by decide, (AllJ.cons rfl (fun K hK => ?_) (AllJ.cons rfl (fun K hK => ?_) (AllJ.cons rfl (fun K hK => ?_) AllJ.nil)))⟩
                  · go_simp
                    go_at_call 35
                    refine (hash_c (rowsF_of HRX.out HF.out.1)).mono ?_
                    rintro e w2 ⟨v, rfl, ht, hb⟩
                    have hN := HF.out.call8 hb ht
                    exact Shut.out hK _ _ (HS.out _ hN.1) ⟨(some u2), (some u6), (some v), none, none, some p10, rfl, by kernel_rfl, (by simp only [ha, put6, putO, Option.map_some, Option.map_none, ptrV, Act.put, List.setIfInBounds_toArray, List.set_cons_zero, List.set_cons_succ]), .inr (.inr (.inr ⟨_, _, _, rfl, rfl, rfl⟩)), hN⟩
                  · go_simp
                    have hN := HF.out.al8
                    exact Shut.out hK _ _ (HS.out _ hN.1) ⟨(some u2), (some u6), none, some w1.heap.size, none, some p10, rfl, by kernel_rfl, (by simp only [ha, put6, putO, Option.map_some, Option.map_none, ptrV, Act.put, List.setIfInBounds_toArray, List.set_cons_zero, List.set_cons_succ]), .inr (.inr (.inl ⟨_, _, rfl, rfl, rfl⟩)), hN⟩
                  · go_simp
                    have hN := HF.out.al9
                    exact Shut.out hK _ _ (HS.out _ hN.1) ⟨(some u2), (some u6), none, none, some w1.heap.size, some p10, rfl, by kernel_rfl, (by simp only [ha, put6, putO, Option.map_some, Option.map_none, ptrV, Act.put, List.setIfInBounds_toArray, List.set_cons_zero, List.set_cons_succ]), .inr (.inr (.inl ⟨_, _, rfl, rfl, rfl⟩)), hN⟩
              ·
                rcases p10 with _ | p10
                ·
                  simp only [ha, put6, putO, Option.map_some, Option.map_none, ptrV, Act.put, List.setIfInBounds_toArray, List.set_cons_zero, List.set_cons_succ] at hac
                  subst hac
                  refine Or.inr ⟨5, [8, 9, 11], rfl, by kernel_rfl, by decide, (AllJ.cons rfl (fun K hK => ?_) (AllJ.cons rfl (fun K hK => ?_) (AllJ.cons rfl (fun K hK => ?_) AllJ.nil)))⟩
                  · go_simp
                    go_at_call 35
                    refine (hash_c (rowsF_of HRX.out HF.out.1)).mono ?_
                    rintro e w2 ⟨v, rfl, ht, hb⟩
                    have hN := HF.out.call8 hb ht
                    exact Shut.out hK _ _ (HS.out _ hN.1) ⟨(some u2), (some u6), (some v), none, some p9, none, rfl, by kernel_rfl, (by simp only [ha, put6, putO, Option.map_some, Option.map_none, ptrV, Act.put, List.setIfInBounds_toArray, List.set_cons_zero, List.set_cons_succ]), .inr (.inr (.inr ⟨_, _, _, rfl, rfl, rfl⟩)), hN⟩
                  · go_simp
                    have hN := HF.out.al8
                    exact Shut.out hK _ _ (HS.out _ hN.1) ⟨(some u2), (some u6), none, some w1.heap.size, some p9, none, rfl, by kernel_rfl, (by simp only [ha, put6, putO, Option.map_some, Option.map_none, ptrV, Act.put, List.setIfInBounds_toArray, List.set_cons_zero, List.set_cons_succ]), .inr (.inr (.inl ⟨_, _, rfl, rfl, rfl⟩)), hN⟩
                  · go_simp
                    have hN := HF.out.al10
                    exact Shut.out hK _ _ (HS.out _ hN.1) ⟨(some u2), (some u6), none, none, some p9, some w1.heap.size, rfl, by kernel_rfl, (by simp only [ha, put6, putO, Option.map_some, Option.map_none, ptrV, Act.put, List.setIfInBounds_toArray, List.set_cons_zero, List.set_cons_succ]), .inr (.inr (.inl ⟨_, _, rfl, rfl, rfl⟩)), hN⟩
                ·
                  simp only [ha, put6, putO, Option.map_some, Option.map_none, ptrV, Act.put, List.setIfInBounds_toArray, List.set_cons_zero, List.set_cons_succ] at hac
                  subst hac
                  refine Or.inr ⟨4, [8, 9], rfl, by kernel_rfl, by decide, (AllJ.cons rfl (fun K hK => ?_) (AllJ.cons rfl (fun K hK => ?_) AllJ.nil))⟩
                  · go_simp
                    go_at_call 35
                    refine (hash_c (rowsF_of HRX.out HF.out.1)).mono ?_
                    rintro e w2 ⟨v, rfl, ht, hb⟩
                    have hN := HF.out.call8 hb ht
                    exact Shut.out hK _ _ (HS.out _ hN.1) ⟨(some u2), (some u6), (some v), none, some p9, some p10, rfl, by kernel_rfl, (by simp only [ha, put6, putO, Option.map_some, Option.map_none, ptrV, Act.put, List.setIfInBounds_toArray, List.set_cons_zero, List.set_cons_succ]), .inr (.inr (.inr ⟨_, _, _, rfl, rfl, rfl⟩)), hN⟩
                  · go_simp
                    have hN := HF.out.al8
                    exact Shut.out hK _ _ (HS.out _ hN.1) ⟨(some u2), (some u6), none, some w1.heap.size, some p9, some p10, rfl, by kernel_rfl, (by simp only [ha, put6, putO, Option.map_some, Option.map_none, ptrV, Act.put, List.setIfInBounds_toArray, List.set_cons_zero, List.set_cons_succ]), .inr (.inr (.inl ⟨_, _, rfl, rfl, rfl⟩)), hN⟩
            ·
              rcases p9 with _ | p9
              ·
                rcases p10 with _ | p10
                ·
                  simp only [ha, put6, putO, Option.map_some, Option.map_none, ptrV, Act.put, List.setIfInBounds_toArray, List.set_cons_zero, List.set_cons_succ] at hac
                  subst hac
                  refine Or.inr ⟨5, [8, 10, 11], rfl, by kernel_rfl, by decide, (AllJ.cons rfl (fun K hK => ?_) (AllJ.cons rfl (fun K hK => ?_) (AllJ.cons rfl (fun K hK => ?_) AllJ.nil)))⟩
                  · go_simp
                    go_at_call 35
                    refine (hash_c (rowsF_of HRX.out HF.out.1)).mono ?_
                    rintro e w2 ⟨v, rfl, ht, hb⟩
                    have hN := HF.out.call8 hb ht
                    exact Shut.out hK _ _ (HS.out _ hN.1) ⟨(some u2), (some u6), (some v), some p8, none, none, rfl, by kernel_rfl, (by simp only [ha, put6, putO, Option.map_some, Option.map_none, ptrV, Act.put, List.setIfInBounds_toArray, List.set_cons_zero, List.set_cons_succ]), .inr (.inr (.inr ⟨_, _, _, rfl, rfl, rfl⟩)), hN⟩
                  · go_simp
                    have hN := HF.out.al9
                    exact Shut.out hK _ _ (HS.out _ hN.1) ⟨(some u2), (some u6), none, some p8, some w1.heap.size, none, rfl, by kernel_rfl, (by simp only [ha, put6, putO, Option.map_some, Option.map_none, ptrV, Act.put, List.setIfInBounds_toArray, List.set_cons_zero, List.set_cons_succ]), .inr (.inr (.inl ⟨_, _, rfl, rfl, rfl⟩)), hN⟩
                  · go_simp
                    have hN := HF.out.al10
                    exact Shut.out hK _ _ (HS.out _ hN.1) ⟨(some u2), (some u6), none, some p8, none, some w1.heap.size, rfl, by kernel_rfl, (by simp only [ha, put6, putO, Option.map_some, Option.map_none, ptrV, Act.put, List.setIfInBounds_toArray, List.set_cons_zero, List.set_cons_succ]), .inr (.inr (.inl ⟨_, _, rfl, rfl, rfl⟩)), hN⟩
                ·
                  simp only [ha, put6, putO, Option.map_some, Option.map_none, ptrV, Act.put, List.setIfInBounds_toArray, List.set_cons_zero, List.set_cons_succ] at hac
                  subst hac
                  refine Or.inr ⟨4, [8, 10], rfl, by kernel_rfl, by decide, (AllJ.cons rfl (fun K hK => ?_) (AllJ.cons rfl (fun K hK => ?_) AllJ.nil))⟩
                  · go_simp
                    go_at_call 35
                    refine (hash_c (rowsF_of HRX.out HF.out.1)).mono ?_
                    rintro e w2 ⟨v, rfl, ht, hb⟩
                    have hN := HF.out.call8 hb ht
                    exact Shut.out hK _ _ (HS.out _ hN.1) ⟨(some u2), (some u6), (some v), some p8, none, some p10, rfl, by kernel_rfl, (by simp only [ha, put6, putO, Option.map_some, Option.map_none, ptrV, Act.put, List.setIfInBounds_toArray, List.set_cons_zero, List.set_cons_succ]), .inr (.inr (.inr ⟨_, _, _, rfl, rfl, rfl⟩)), hN⟩
                  · go_simp
                    have hN := HF.out.al9
                    exact Shut.out hK _ _ (HS.out _ hN.1) ⟨(some u2), (some u6), none, some p8, some w1.heap.size, some p10, rfl, by kernel_rfl, (by simp only [ha, put6, putO, Option.map_some, Option.map_none, ptrV, Act.put, List.setIfInBounds_toArray, List.set_cons_zero, List.set_cons_succ]), .inr (.inr (.inl ⟨_, _, rfl, rfl, rfl⟩)), hN⟩
              ·
                rcases p10 with _ | p10
                ·
                  simp only [ha, put6, putO, Option.map_some, Option.map_none, ptrV, Act.put, List.setIfInBounds_toArray, List.set_cons_zero, List.set_cons_succ] at hac
                  subst hac
                  refine Or.inr ⟨4, [8, 11], rfl, by kernel_rfl, by decide, (AllJ.cons rfl (fun K hK => ?_) (AllJ.cons rfl (fun K hK => ?_) AllJ.nil))⟩
                  · go_simp
                    go_at_call 35
                    refine (hash_c (rowsF_of HRX.out HF.out.1)).mono ?_
                    rintro e w2 ⟨v, rfl, ht, hb⟩
                    have hN := HF.out.call8 hb ht
                    exact Shut.out hK _ _ (HS.out _ hN.1) ⟨(some u2), (some u6), (some v), some p8, some p9, none, rfl, by kernel_rfl, (by simp only [ha, put6, putO, Option.map_some, Option.map_none, ptrV, Act.put, List.setIfInBounds_toArray, List.set_cons_zero, List.set_cons_succ]), .inr (.inr (.inr ⟨_, _, _, rfl, rfl, rfl⟩)), hN⟩
                  · go_simp
                    have hN := HF.out.al10
                    exact Shut.out hK _ _ (HS.out _ hN.1) ⟨(some u2), (some u6), none, some p8, some p9, some w1.heap.size, rfl, by kernel_rfl, (by simp only [ha, put6, putO, Option.map_some, Option.map_none, ptrV, Act.put, List.setIfInBounds_toArray, List.set_cons_zero, List.set_cons_succ]), .inr (.inr (.inl ⟨_, _, rfl, rfl, rfl⟩)), hN⟩
                ·
                  simp only [ha, put6, putO, Option.map_some, Option.map_none, ptrV, Act.put, List.setIfInBounds_toArray, List.set_cons_zero, List.set_cons_succ] at hac
                  subst hac
                  refine Or.inr ⟨3, [8], rfl, by kernel_rfl, by decide, (AllJ.cons rfl (fun K hK => ?_) AllJ.nil)⟩
                  · go_simp
                    go_at_call 35
                    refine (hash_c (rowsF_of HRX.out HF.out.1)).mono ?_
                    rintro e w2 ⟨v, rfl, ht, hb⟩
                    have hN := HF.out.call8 hb ht
                    exact Shut.out hK _ _ (HS.out _ hN.1) ⟨(some u2), (some u6), (some v), some p8, some p9, some p10, rfl, by kernel_rfl, (by simp only [ha, put6, putO, Option.map_some, Option.map_none, ptrV, Act.put, List.setIfInBounds_toArray, List.set_cons_zero, List.set_cons_succ]), .inr (.inr (.inr ⟨_, _, _, rfl, rfl, rfl⟩)), hN⟩
          ·
            rcases p8 with _ | p8
            ·
              rcases p9 with _ | p9
              ·
                rcases p10 with _ | p10
                ·
                  simp only [ha, put6, putO, Option.map_some, Option.map_none, ptrV, Act.put, List.setIfInBounds_toArray, List.set_cons_zero, List.set_cons_succ] at hac
                  subst hac
                  refine Or.inr ⟨5, [9, 10, 11], rfl, by kernel_rfl, by decide, (AllJ.cons rfl (fun K hK => ?_) (AllJ.cons rfl (fun K hK => ?_) (AllJ.cons rfl (fun K hK => ?_) AllJ.nil)))⟩
                  · go_simp
                    have hN := HF.out.al8
                    exact Shut.out hK _ _ (HS.out _ hN.1) ⟨(some u2), (some u6), (some u8), some w1.heap.size, none, none, rfl, by kernel_rfl, (by simp only [ha, put6, putO, Option.map_some, Option.map_none, ptrV, Act.put, List.setIfInBounds_toArray, List.set_cons_zero, List.set_cons_succ]), .inr (.inr (.inr ⟨_, _, _, rfl, rfl, rfl⟩)), hN⟩
                  · go_simp
                    have hN := HF.out.al9
                    exact Shut.out hK _ _ (HS.out _ hN.1) ⟨(some u2), (some u6), (some u8), none, some w1.heap.size, none, rfl, by kernel_rfl, (by simp only [ha, put6, putO, Option.map_some, Option.map_none, ptrV, Act.put, List.setIfInBounds_toArray, List.set_cons_zero, List.set_cons_succ]), .inr (.inr (.inr ⟨_, _, _, rfl, rfl, rfl⟩)), hN⟩
                  · go_simp
                    have hN := HF.out.al10
                    exact Shut.out hK _ _ (HS.out _ hN.1) ⟨(some u2), (some u6), (some u8), none, none, some w1.heap.size, rfl, by kernel_rfl, (by simp only [ha, put6, putO, Option.map_some, Option.map_none, ptrV, Act.put, List.setIfInBounds_toArray, List.set_cons_zero, List.set_cons_succ]), .inr (.inr (.inr ⟨_, _, _, rfl, rfl, rfl⟩)), hN⟩
                ·
                  simp only [ha, put6, putO, Option.map_some, Option.map_none, ptrV, Act.put, List.setIfInBounds_toArray, List.set_cons_zero, List.set_cons_succ] at hac
                  subst hac
                  refine Or.inr ⟨4, [9, 10], rfl, by kernel_rfl, by decide, (AllJ.cons rfl (fun K hK => ?_) (AllJ.cons rfl (fun K hK => ?_) AllJ.nil))⟩
                  · go_simp
                    have hN := HF.out.al8
                    exact Shut.out hK _ _ (HS.out _ hN.1) ⟨(some u2), (some u6), (some u8), some w1.heap.size, none, some p10, rfl, by kernel_rfl, (by simp only [ha, put6, putO, Option.map_some, Option.map_none, ptrV, Act.put, List.setIfInBounds_toArray, List.set_cons_zero, List.set_cons_succ]), .inr (.inr (.inr ⟨_, _, _, rfl, rfl, rfl⟩)), hN⟩
                  · go_simp
                    have hN := HF.out.al9
                    exact Shut.out hK _ _ (HS.out _ hN.1) ⟨(some u2), (some u6), (some u8), none, some w1.heap.size, some p10, rfl, by kernel_rfl, (by simp only [ha, put6, putO, Option.map_some, Option.map_none, ptrV, Act.put, List.setIfInBounds_toArray, List.set_cons_zero, List.set_cons_succ]), .inr (.inr (.inr ⟨_, _, _, rfl, rfl, rfl⟩)), hN⟩
              ·
                rcases p10 with _ | p10
                ·
                  simp only [ha, put6, putO, Option.map_some, Option.map_none, ptrV, Act.put, List.setIfInBounds_toArray, List.set_cons_zero, List.set_cons_succ] at hac
                  subst hac
                  refine Or.inr ⟨4, [9, 11], rfl, by kernel_rfl, by decide, (AllJ.cons rfl (fun K hK => ?_) (AllJ.cons rfl (fun K hK => ?_) AllJ.nil))⟩
                  · go_simp
                    have hN := HF.out.al8
                    exact Shut.out hK _ _ (HS.out _ hN.1) ⟨(some u2), (some u6), (some u8), some w1.heap.size, some p9, none, rfl, by kernel_rfl, (by simp only [ha, put6, putO, Option.map_some, Option.map_none, ptrV, Act.put, List.setIfInBounds_toArray, List.set_cons_zero, List.set_cons_succ]), .inr (.inr (.inr ⟨_, _, _, rfl, rfl, rfl⟩)), hN⟩
                  · go_simp
                    have hN := HF.out.al10
                    exact Shut.out hK _ _ (HS.out _ hN.1) ⟨(some u2), (some u6), (some u8), none, some p9, some w1.heap.size, rfl, by kernel_rfl, (by simp only [ha, put6, putO, Option.map_some, Option.map_none, ptrV, Act.put, List.setIfInBounds_toArray, List.set_cons_zero, List.set_cons_succ]), .inr (.inr (.inr ⟨_, _, _, rfl, rfl, rfl⟩)), hN⟩
                ·
                  simp only [ha, put6, putO, Option.map_some, Option.map_none, ptrV, Act.put, List.setIfInBounds_toArray, List.set_cons_zero, List.set_cons_succ] at hac
                  subst hac
                  refine Or.inr ⟨3, [9], rfl, by kernel_rfl, by decide, (AllJ.cons rfl (fun K hK => ?_) AllJ.nil)⟩
                  · go_simp
                    have hN := HF.out.al8
                    exact Shut.out hK _ _ (HS.out _ hN.1) ⟨(some u2), (some u6), (some u8), some w1.heap.size, some p9, some p10, rfl, by kernel_rfl, (by simp only [ha, put6, putO, Option.map_some, Option.map_none, ptrV, Act.put, List.setIfInBounds_toArray, List.set_cons_zero, List.set_cons_succ]), .inr (.inr (.inr ⟨_, _, _, rfl, rfl, rfl⟩)), hN⟩
            ·
              rcases p9 with _ | p9
              ·
                rcases p10 with _ | p10
                ·
                  simp only [ha, put6, putO, Option.map_some, Option.map_none, ptrV, Act.put, List.setIfInBounds_toArray, List.set_cons_zero, List.set_cons_succ] at hac
                  subst hac
                  refine Or.inr ⟨4, [10, 11], rfl, by kernel_rfl, by decide, (AllJ.cons rfl (fun K hK => ?_) (AllJ.cons rfl (fun K hK => ?_) AllJ.nil))⟩
                  · go_simp
                    have hN := HF.out.al9
                    exact Shut.out hK _ _ (HS.out _ hN.1) ⟨(some u2), (some u6), (some u8), some p8, some w1.heap.size, none, rfl, by kernel_rfl, (by simp only [ha, put6, putO, Option.map_some, Option.map_none, ptrV, Act.put, List.setIfInBounds_toArray, List.set_cons_zero, List.set_cons_succ]), .inr (.inr (.inr ⟨_, _, _, rfl, rfl, rfl⟩)), hN⟩
                  · go_simp
                    have hN := HF.out.al10
                    exact Shut.out hK _ _ (HS.out _ hN.1) ⟨(some u2), (some u6), (some u8), some p8, none, some w1.heap.size, rfl, by kernel_rfl, (by simp only [ha, put6, putO, Option.map_some, Option.map_none, ptrV, Act.put, List.setIfInBounds_toArray, List.set_cons_zero, List.set_cons_succ]), .inr (.inr (.inr ⟨_, _, _, rfl, rfl, rfl⟩)), hN⟩
                ·
                  simp only [ha, put6, putO, Option.map_some, Option.map_none, ptrV, Act.put, List.setIfInBounds_toArray, List.set_cons_zero, List.set_cons_succ] at hac
                  subst hac
                  refine Or.inr ⟨3, [10], rfl, by kernel_rfl, by decide, (AllJ.cons rfl (fun K hK => ?_) AllJ.nil)⟩
                  · go_simp
                    have hN := HF.out.al9
                    exact Shut.out hK _ _ (HS.out _ hN.1) ⟨(some u2), (some u6), (some u8), some p8, some w1.heap.size, some p10, rfl, by kernel_rfl, (by simp only [ha, put6, putO, Option.map_some, Option.map_none, ptrV, Act.put, List.setIfInBounds_toArray, List.set_cons_zero, List.set_cons_succ]), .inr (.inr (.inr ⟨_, _, _, rfl, rfl, rfl⟩)), hN⟩
              ·
                rcases p10 with _ | p10
                ·
                  simp only [ha, put6, putO, Option.map_some, Option.map_none, ptrV, Act.put, List.setIfInBounds_toArray, List.set_cons_zero, List.set_cons_succ] at hac
                  subst hac
                  refine Or.inr ⟨3, [11], rfl, by kernel_rfl, by decide, (AllJ.cons rfl (fun K hK => ?_) AllJ.nil)⟩
                  · go_simp
                    have hN := HF.out.al10
                    exact Shut.out hK _ _ (HS.out _ hN.1) ⟨(some u2), (some u6), (some u8), some p8, some p9, some w1.heap.size, rfl, by kernel_rfl, (by simp only [ha, put6, putO, Option.map_some, Option.map_none, ptrV, Act.put, List.setIfInBounds_toArray, List.set_cons_zero, List.set_cons_succ]), .inr (.inr (.inr ⟨_, _, _, rfl, rfl, rfl⟩)), hN⟩
                ·
                  refine Or.inl ?_
                  simp only [ha, put6, putO, Option.map_some, Option.map_none, ptrV, Act.put, List.setIfInBounds_toArray, List.set_cons_zero, List.set_cons_succ] at hac
                  subst hac
                  obtain ⟨hB1, ⟨hr2, hr6, hr8⟩, ⟨hn8, hn9, hn10⟩, hd1, hd2, hd3⟩ := HF.out
                  obtain ⟨ok2, ⟨P2, s2, P3, s3, rfl, hf2⟩, hk2⟩ := hr2 _ rfl
                  obtain ⟨ok6, ⟨E2, s4, E3, s5, rfl, hf6⟩, hk6⟩ := hr6 _ rfl
                  obtain ⟨ok8, ⟨H2, s6, H3, s7, rfl, hf8⟩, hk8⟩ := hr8 _ rfl
                  have HD := Aside0.mk (And.intro (hd1 _ _ rfl rfl) (And.intro (hd2 _ _ rfl rfl) (hd3 _ _ rfl rfl)))
                  have HK2 := Aside0.mk (show ¬ ok2 p8 ∧ ¬ ok2 p9 ∧ ¬ ok2 p10 from ⟨fun h => (hk2 _ h).2 (.inl rfl), fun h => (hk2 _ h).2 (.inr (.inl rfl)), fun h => (hk2 _ h).2 (.inr (.inr rfl))⟩)
                  have HK6 := Aside0.mk (show ¬ ok6 p8 ∧ ¬ ok6 p9 ∧ ¬ ok6 p10 from ⟨fun h => (hk6 _ h).2 (.inl rfl), fun h => (hk6 _ h).2 (.inr (.inl rfl)), fun h => (hk6 _ h).2 (.inr (.inr rfl))⟩)
                  have HK8 := Aside0.mk (show ¬ ok8 p8 ∧ ¬ ok8 p9 ∧ ¬ ok8 p10 from ⟨fun h => (hk8 _ h).2 (.inl rfl), fun h => (hk8 _ h).2 (.inr (.inl rfl)), fun h => (hk8 _ h).2 (.inr (.inr rfl))⟩)
                  have HP := Aside0.mk (And.intro (hn8 _ rfl).2 (And.intro (hn9 _ rfl).2 (hn10 _ rfl).2))
                  have HB8 := Aside0.mk (show Blk w1 p8 26 ZT from (hn8 _ rfl).1)
                  have HB9 := Aside0.mk (show Blk w1 p9 26 ZT from (hn9 _ rfl).1)
                  have HB10 := Aside0.mk (show Blk w1 p10 26 ZT from (hn10 _ rfl).1)
                  have HR2 := Aside0.mk hf2
                  have HR6 := Aside0.mk hf6
                  have HR8 := Aside0.mk hf8
                  have HBW := Aside0.mk hB1
                  clear hr2 hr6 hr8 hn8 hn9 hn10 hd1 hd2 hd3 hk2 hk6 hk8 hf2 hf6 hf8 hB1 HF
                  refine wpAnyH_ready (rs := [12]) (by kernel_rfl) (by simp) (AllReadyH.cons rfl (fun K hK => ?_) AllReadyH.nil)
                  obtain ⟨y0, y1, y2, y3⟩ := four_cells HB8.out
                  have z0 := blk_frozen HB8.out 0; have z1 := blk_frozen HB8.out 1; have z2 := blk_frozen HB8.out 2; have z3 := blk_frozen HB8.out 3
                  go_simp
                  clear y0 y1 y2 y3 z0 z1 z2 z3
                  have HBW1 := Aside0.mk (fill_below (a := .int .i64 4) (b := .int .u64 0) (c := .slice P2 ([] : List Int).length s2) (d := .slice P3 [x, y].length s3) HBW.out HP.out.1)
                  refine Shut.out hK _ _ (HS.out _ HBW1.out) (fun hHeld => ?_)
                  clear hK K
                  clear HBW; have HBW := HBW1; clear HBW1
                  have HQ8 := Aside0.mk (show Blk (fill4 w1 p8 (.int .i64 4) (.int .u64 0) (.slice P2 ([] : List Int).length s2) (.slice P3 [x, y].length s3)) p8 26 _ from set4 HB8.out (.int .i64 4) (.int .u64 0) (.slice P2 ([] : List Int).length s2) (.slice P3 [x, y].length s3))
                  have HQ9 := Aside0.mk (fill_blk (p := p8) HB9.out (by have := HD.out; omega) : Blk (fill4 w1 p8 (.int .i64 4) (.int .u64 0) (.slice P2 ([] : List Int).length s2) (.slice P3 [x, y].length s3)) p9 26 ZT)
                  have HQ10 := Aside0.mk (fill_blk (p := p8) HB10.out (by have := HD.out; omega) : Blk (fill4 w1 p8 (.int .i64 4) (.int .u64 0) (.slice P2 ([] : List Int).length s2) (.slice P3 [x, y].length s3)) p10 26 ZT)
                  have HT2 := Aside0.mk (show RowsF (fill4 w1 p8 (.int .i64 4) (.int .u64 0) (.slice P2 ([] : List Int).length s2) (.slice P3 [x, y].length s3)) _ _ _ _ _ _ from fill_rows HR2.out HK2.out.1)
                  have HT6 := Aside0.mk (show RowsF (fill4 w1 p8 (.int .i64 4) (.int .u64 0) (.slice P2 ([] : List Int).length s2) (.slice P3 [x, y].length s3)) _ _ _ _ _ _ from fill_rows HR6.out HK6.out.1)
                  have HT8 := Aside0.mk (show RowsF (fill4 w1 p8 (.int .i64 4) (.int .u64 0) (.slice P2 ([] : List Int).length s2) (.slice P3 [x, y].length s3)) _ _ _ _ _ _ from fill_rows HR8.out HK8.out.1)
                  clear HB8 HB9 HB10 HR2 HR6 HR8
                  obtain ⟨x1, hx1⟩ : ∃ W2, fill4 w1 p8 (.int .i64 4) (.int .u64 0) (.slice P2 ([] : List Int).length s2) (.slice P3 [x, y].length s3) = W2 := ⟨_, rfl⟩
                  rw [hx1] at HBW HQ8 HQ9 HQ10 HT2 HT6 HT8
                  simp only [fill4, List.length_nil, List.length_cons, Nat.zero_add, Nat.reduceAdd] at hx1
                  rw [hx1] at hHeld ⊢
                  clear hx1
                  have HB8 := HQ8; have HB9 := HQ9; have HB10 := HQ10; have HR2 := HT2; have HR6 := HT6; have HR8 := HT8; clear HQ8 HQ9 HQ10 HT2 HT6 HT8
                  refine wpAnyH_ready (rs := [13]) (by kernel_rfl) (by simp) (AllReadyH.cons rfl (fun K hK => ?_) AllReadyH.nil)
                  obtain ⟨y0, y1, y2, y3⟩ := four_cells HB9.out
                  have z0 := blk_frozen HB9.out 0; have z1 := blk_frozen HB9.out 1; have z2 := blk_frozen HB9.out 2; have z3 := blk_frozen HB9.out 3
                  go_simp
                  clear y0 y1 y2 y3 z0 z1 z2 z3
                  have HBW1 := Aside0.mk (fill_below (a := .int .i64 5) (b := .int .u64 n) (c := .slice E2 ([] : List Int).length s4) (d := .slice E3 [x, y].length s5) HBW.out HP.out.2.1)
                  refine Shut.out hK _ _ (HS.out _ HBW1.out) (fun hHeld => ?_)
                  clear hK K
                  clear HBW; have HBW := HBW1; clear HBW1
                  have HQ8 := Aside0.mk (show Blk (fill4 x1 p9 (.int .i64 5) (.int .u64 n) (.slice E2 ([] : List Int).length s4) (.slice E3 [x, y].length s5)) p8 26 _ from fill_blk HB8.out (by have := HD.out; omega))
                  have HQ9 := Aside0.mk (show Blk (fill4 x1 p9 (.int .i64 5) (.int .u64 n) (.slice E2 ([] : List Int).length s4) (.slice E3 [x, y].length s5)) p9 26 _ from set4 HB9.out (.int .i64 5) (.int .u64 n) (.slice E2 ([] : List Int).length s4) (.slice E3 [x, y].length s5))
                  have HQ10 := Aside0.mk (fill_blk (p := p9) HB10.out (by have := HD.out; omega) : Blk (fill4 x1 p9 (.int .i64 5) (.int .u64 n) (.slice E2 ([] : List Int).length s4) (.slice E3 [x, y].length s5)) p10 26 ZT)
                  have HT2 := Aside0.mk (show RowsF (fill4 x1 p9 (.int .i64 5) (.int .u64 n) (.slice E2 ([] : List Int).length s4) (.slice E3 [x, y].length s5)) _ _ _ _ _ _ from fill_rows HR2.out HK2.out.2.1)
                  have HT6 := Aside0.mk (show RowsF (fill4 x1 p9 (.int .i64 5) (.int .u64 n) (.slice E2 ([] : List Int).length s4) (.slice E3 [x, y].length s5)) _ _ _ _ _ _ from fill_rows HR6.out HK6.out.2.1)
                  have HT8 := Aside0.mk (show RowsF (fill4 x1 p9 (.int .i64 5) (.int .u64 n) (.slice E2 ([] : List Int).length s4) (.slice E3 [x, y].length s5)) _ _ _ _ _ _ from fill_rows HR8.out HK8.out.2.1)
                  clear HB8 HB9 HB10 HR2 HR6 HR8
                  obtain ⟨x2, hx2⟩ : ∃ W2, fill4 x1 p9 (.int .i64 5) (.int .u64 n) (.slice E2 ([] : List Int).length s4) (.slice E3 [x, y].length s5) = W2 := ⟨_, rfl⟩
                  rw [hx2] at HBW HQ8 HQ9 HQ10 HT2 HT6 HT8
                  simp only [fill4, List.length_nil, List.length_cons, Nat.zero_add, Nat.reduceAdd] at hx2
                  rw [hx2] at hHeld ⊢
                  clear hx2
                  have HB8 := HQ8; have HB9 := HQ9; have HB10 := HQ10; have HR2 := HT2; have HR6 := HT6; have HR8 := HT8; clear HQ8 HQ9 HQ10 HT2 HT6 HT8
                  refine wpAnyH_ready (rs := [14]) (by kernel_rfl) (by simp) (AllReadyH.cons rfl (fun K hK => ?_) AllReadyH.nil)
                  obtain ⟨y0, y1, y2, y3⟩ := four_cells HB10.out
                  have z0 := blk_frozen HB10.out 0; have z1 := blk_frozen HB10.out 1; have z2 := blk_frozen HB10.out 2; have z3 := blk_frozen HB10.out 3
                  go_simp
                  clear y0 y1 y2 y3 z0 z1 z2 z3
                  have HBW1 := Aside0.mk (fill_below (a := .int .i64 6) (b := .int .u64 0) (c := .slice H2 ([] : List Int).length s6) (d := .slice H3 [x].length s7) HBW.out HP.out.2.2)
                  refine Shut.out hK _ _ (HS.out _ HBW1.out) (fun hHeld => ?_)
                  clear hK K
                  clear HBW; have HBW := HBW1; clear HBW1
                  have HQ8 := Aside0.mk (show Blk (fill4 x2 p10 (.int .i64 6) (.int .u64 0) (.slice H2 ([] : List Int).length s6) (.slice H3 [x].length s7)) p8 26 _ from fill_blk HB8.out (by have := HD.out; omega))
                  have HQ9 := Aside0.mk (show Blk (fill4 x2 p10 (.int .i64 6) (.int .u64 0) (.slice H2 ([] : List Int).length s6) (.slice H3 [x].length s7)) p9 26 _ from fill_blk HB9.out (by have := HD.out; omega))
                  have HQ10 := Aside0.mk (show Blk (fill4 x2 p10 (.int .i64 6) (.int .u64 0) (.slice H2 ([] : List Int).length s6) (.slice H3 [x].length s7)) p10 26 _ from set4 HB10.out (.int .i64 6) (.int .u64 0) (.slice H2 ([] : List Int).length s6) (.slice H3 [x].length s7))
                  have HT2 := Aside0.mk (show RowsF (fill4 x2 p10 (.int .i64 6) (.int .u64 0) (.slice H2 ([] : List Int).length s6) (.slice H3 [x].length s7)) _ _ _ _ _ _ from fill_rows HR2.out HK2.out.2.2)
                  have HT6 := Aside0.mk (show RowsF (fill4 x2 p10 (.int .i64 6) (.int .u64 0) (.slice H2 ([] : List Int).length s6) (.slice H3 [x].length s7)) _ _ _ _ _ _ from fill_rows HR6.out HK6.out.2.2)
                  have HT8 := Aside0.mk (show RowsF (fill4 x2 p10 (.int .i64 6) (.int .u64 0) (.slice H2 ([] : List Int).length s6) (.slice H3 [x].length s7)) _ _ _ _ _ _ from fill_rows HR8.out HK8.out.2.2)
                  clear HB8 HB9 HB10 HR2 HR6 HR8
                  obtain ⟨x3, hx3⟩ : ∃ W2, fill4 x2 p10 (.int .i64 6) (.int .u64 0) (.slice H2 ([] : List Int).length s6) (.slice H3 [x].length s7) = W2 := ⟨_, rfl⟩
                  rw [hx3] at HBW HQ8 HQ9 HQ10 HT2 HT6 HT8
                  simp only [fill4, List.length_nil, List.length_cons, Nat.zero_add, Nat.reduceAdd] at hx3
                  rw [hx3] at hHeld ⊢
                  clear hx3
                  have HB8 := HQ8; have HB9 := HQ9; have HB10 := HQ10; have HR2 := HT2; have HR6 := HT6; have HR8 := HT8; clear HQ8 HQ9 HQ10 HT2 HT6 HT8
                  refine wpAnyH_done (by kernel_rfl) ?_ _
                  go_wp2_with (fail)
                  go_meet
                  case rel => exact ⟨p8, p9, p10, rfl, rfl, rfl, ⟨⟨_, _, _, _, HB8.out, HR2.out.now⟩, ⟨_, _, _, _, HB9.out, HR6.out.now⟩, ⟨_, _, _, _, HB10.out, HR8.out.now⟩⟩, HLV.out.below HBW.out, below_step HB.out HBW.out, HX.out.below HBW.out, HY.out.below HBW.out, HRX.out.below HBW.out, HRY.out.below HBW.out⟩
        case rest =>
          obtain ⟨p, q, r, rfl, rfl, rfl, ⟨h1, h2, h3⟩, hl, hb, hx, hy, hrx, hry⟩ := hcut
          obtain ⟨P2, s2, P3, s3, hp, hpr⟩ := h1
          obtain ⟨Q2, t2, Q3, t3, hq, hqr⟩ := h2
          obtain ⟨R2, u2, R3, u3, hr, hrr⟩ := h3
          obtain ⟨AL, cL, rfl, hl1, hl2⟩ := hl
          clear HB HX HY HRX HRY HLV HFX HFY HF0 HS
          have HP := Aside0.mk (show Blk wc p 26 #[.int .i64 4, .int .u64 0, .slice P2 0 s2, .slice P3 2 s3] from hp)
          have HQ := Aside0.mk (show Blk wc q 26 #[.int .i64 5, .int .u64 n, .slice Q2 0 t2, .slice Q3 2 t3] from hq)
          have HR := Aside0.mk (show Blk wc r 26 #[.int .i64 6, .int .u64 0, .slice R2 0 u2, .slice R3 1 u3] from hr)
          have HPR := Aside0.mk hpr
          have HQR := Aside0.mk hqr
          have HRR := Aside0.mk hrr
          have HB := Aside0.mk hb
          have HX := Aside0.mk hx
          have HY := Aside0.mk hy
          have HRX := Aside0.mk hrx
          have HRY := Aside0.mk hry
          have HLL := Aside0.mk (show LsV wc (partsV x) (.slice AL (partsV x).length cL) from ⟨AL, cL, rfl, hl1, hl2⟩)
          clear hp hpr hq hqr hr hrr hb hx hy hrx hry hl1 hl2
          have p0 := HP.out.cell 0; have p1 := HP.out.cell 1; have p2 := HP.out.cell 2; have p3 := HP.out.cell 3; simp only [List.getElem?_toArray, List.getElem?_cons_zero, List.getElem?_cons_succ] at p0 p1 p2 p3
          have x0 := HX.out.cell 0; have x1 := HX.out.cell 1; have x2 := HX.out.cell 2; have x3 := HX.out.cell 3; simp only [List.getElem?_toArray, List.getElem?_cons_zero, List.getElem?_cons_succ] at x0 x1 x2 x3
          have y0 := HY.out.cell 0; have y1 := HY.out.cell 1; have y2 := HY.out.cell 2; have y3 := HY.out.cell 3; simp only [List.getElem?_toArray, List.getElem?_cons_zero, List.getElem?_cons_succ] at y0 y1 y2 y3
          go_wp2_with (fail)
          refine (same_lit2 4 0 HLEN.out.1 HLEN.out.2 HPR.out HRX.out HRY.out).mono ?_; rintro e w5 ⟨rfl, hb⟩; have n0_ := Aside0.mk (below_step HB.out hb); have n1_ := Aside0.mk (HX.out.below hb); have n2_ := Aside0.mk (HY.out.below hb); have n3_ := Aside0.mk (HRX.out.below hb); have n4_ := Aside0.mk (HRY.out.below hb); have n5_ := Aside0.mk (HLL.out.below hb); have n6_ := Aside0.mk (HQ.out.below hb); have n7_ := Aside0.mk (HR.out.below hb); have n8_ := Aside0.mk (HQR.out.below hb); have n9_ := Aside0.mk (HRR.out.below hb); clear HB HX HY HRX HRY HLL HQ HR HQR HRR; have HB := n0_; have HX := n1_; have HY := n2_; have HRX := n3_; have HRY := n4_; have HLL := n5_; have HQ := n6_; have HR := n7_; have HQR := n8_; have HRR := n9_; clear n0_ n1_ n2_ n3_ n4_ n5_ n6_ n7_ n8_ n9_; have q0 := HQ.out.cell 0; have q1 := HQ.out.cell 1; have q2 := HQ.out.cell 2; have q3 := HQ.out.cell 3; simp only [List.getElem?_toArray, List.getElem?_cons_zero, List.getElem?_cons_succ] at q0 q1 q2 q3; have xa0 := HX.out.cell 0; have xa1 := HX.out.cell 1; have xa2 := HX.out.cell 2; have xa3 := HX.out.cell 3; simp only [List.getElem?_toArray, List.getElem?_cons_zero, List.getElem?_cons_succ] at xa0 xa1 xa2 xa3; have ya0 := HY.out.cell 0; have ya1 := HY.out.cell 1; have ya2 := HY.out.cell 2; have ya3 := HY.out.cell 3; simp only [List.getElem?_toArray, List.getElem?_cons_zero, List.getElem?_cons_succ] at ya0 ya1 ya2 ya3; clear hb
          go_wp2_with (fail)
          refine (same_lit2 5 n HLEN.out.1 HLEN.out.2 HQR.out HRX.out HRY.out).mono ?_; rintro e w6 ⟨rfl, hb⟩; have n0_ := Aside0.mk (below_step HB.out hb); have n1_ := Aside0.mk (HX.out.below hb); have n2_ := Aside0.mk (HY.out.below hb); have n3_ := Aside0.mk (HRX.out.below hb); have n4_ := Aside0.mk (HRY.out.below hb); have n5_ := Aside0.mk (HLL.out.below hb); have n6_ := Aside0.mk (HQ.out.below hb); have n7_ := Aside0.mk (HR.out.below hb); have n8_ := Aside0.mk (HQR.out.below hb); have n9_ := Aside0.mk (HRR.out.below hb); clear HB HX HY HRX HRY HLL HQ HR HQR HRR; have HB := n0_; have HX := n1_; have HY := n2_; have HRX := n3_; have HRY := n4_; have HLL := n5_; have HQ := n6_; have HR := n7_; have HQR := n8_; have HRR := n9_; clear n0_ n1_ n2_ n3_ n4_ n5_ n6_ n7_ n8_ n9_; have r0 := HR.out.cell 0; have r1 := HR.out.cell 1; have r2 := HR.out.cell 2; have r3 := HR.out.cell 3; simp only [List.getElem?_toArray, List.getElem?_cons_zero, List.getElem?_cons_succ] at r0 r1 r2 r3; have xb0 := HX.out.cell 0; have xb1 := HX.out.cell 1; have xb2 := HX.out.cell 2; have xb3 := HX.out.cell 3; simp only [List.getElem?_toArray, List.getElem?_cons_zero, List.getElem?_cons_succ] at xb0 xb1 xb2 xb3; clear hb
          go_wp2_with (fail)
          refine (same_lit1 6 0 HLEN.out.1 HRR.out HRX.out).mono ?_; rintro e w7 ⟨rfl, hb⟩; have n0_ := Aside0.mk (below_step HB.out hb); have n1_ := Aside0.mk (HX.out.below hb); have n2_ := Aside0.mk (HY.out.below hb); have n3_ := Aside0.mk (HRX.out.below hb); have n4_ := Aside0.mk (HRY.out.below hb); have n5_ := Aside0.mk (HLL.out.below hb); clear HB HX HY HRX HRY HLL; have HB := n0_; have HX := n1_; have HY := n2_; have HRX := n3_; have HRY := n4_; have HLL := n5_; clear n0_ n1_ n2_ n3_ n4_ n5_; clear hb
          go_upto_region 9 with (fail)
          have hu23 := Try.underlying23
          have hbd := below_drew1 (Below.refl w7.heap.size w7)
          have n0_ := Aside0.mk (below_step HB.out hbd); have n1_ := Aside0.mk (HX.out.below hbd); have n2_ := Aside0.mk (HY.out.below hbd); have n3_ := Aside0.mk (HRX.out.below hbd); have n4_ := Aside0.mk (HRY.out.below hbd); have n5_ := Aside0.mk (HLL.out.below hbd); clear HB HX HY HRX HRY HLL; have HB := n0_; have HX := n1_; have HY := n2_; have HRX := n3_; have HRY := n4_; have HLL := n5_; clear n0_ n1_ n2_ n3_ n4_ n5_
          clear hbd
          refine wp_region_held_drew (S := fun w' => (w'.cell? ⟨w.heap.size, 0, none⟩ = some (.int .i64 x.f0) ∧ w'.cell? ⟨w.heap.size, 1, none⟩ = some (.int .u64 x.f1) ∧ w'.cell? ⟨w.heap.size, 2, none⟩ = some (.slice A2 x.f2.length c2) ∧ w'.cell? ⟨w.heap.size, 3, none⟩ = some (.slice A3 x.f3.length c3)) ∧ (w'.cell? ⟨w.heap.size + 1, 0, none⟩ = some (.int .i64 y.f0) ∧ w'.cell? ⟨w.heap.size + 1, 1, none⟩ = some (.int .u64 y.f1) ∧ w'.cell? ⟨w.heap.size + 1, 2, none⟩ = some (.slice B2 y.f2.length d2) ∧ w'.cell? ⟨w.heap.size + 1, 3, none⟩ = some (.slice B3 y.f3.length d3))) (by kernel_rfl) (And.intro (four_cells HX.out) (four_cells HY.out)) (fun hHeld => ?_)
          (refine wpAnyH_take (i := 0) (v := ?_) rfl (by kernel_rfl) (by kernel_rfl) (by kernel_rfl) (fun _ _ _ h => h) (Or.inl ⟨by rfl, ?_⟩) (by assumption) ?_; (case' refine_2 => (intro w hSw; go_simp; try with_reducible rfl)); (try simp only [Act.put, List.getElem_toArray, List.getElem_cons_zero, List.getElem_cons_succ, List.setIfInBounds_toArray, List.set_cons_zero, List.set_cons_succ]))
          (refine wpAnyH_take (i := 2) (v := ?_) rfl (by kernel_rfl) (by kernel_rfl) (by kernel_rfl) (fun _ _ _ h => h) (Or.inl ⟨by rfl, ?_⟩) (by assumption) ?_; (case' refine_2 => (intro w hSw; go_simp; try with_reducible rfl)); (try simp only [Act.put, List.getElem_toArray, List.getElem_cons_zero, List.getElem_cons_succ, List.setIfInBounds_toArray, List.set_cons_zero, List.set_cons_succ]))
          (refine wpAnyH_take (i := 3) (v := ?_) rfl (by kernel_rfl) (by kernel_rfl) (by kernel_rfl) (fun _ _ _ h => h) (Or.inl ⟨by rfl, ?_⟩) (by assumption) ?_; (case' refine_2 => (intro w hSw; go_simp; try with_reducible rfl)); (try simp only [Act.put, List.getElem_toArray, List.getElem_cons_zero, List.getElem_cons_succ, List.setIfInBounds_toArray, List.set_cons_zero, List.set_cons_succ]))
          (refine wpAnyH_ready (rs := [1]) (by kernel_rfl) (by simp) (AllReadyH.cons rfl (fun K hK => ?_) AllReadyH.nil); go_simp)
          refine (name_c n _).mono ?_
          rintro e ww ⟨v, rfl, ht, hb⟩
          have n0_ := Aside0.mk (below_step HB.out hb); have n1_ := Aside0.mk (HX.out.below hb); have n2_ := Aside0.mk (HY.out.below hb); have n3_ := Aside0.mk (HRX.out.below hb); have n4_ := Aside0.mk (HRY.out.below hb); have n5_ := Aside0.mk (HLL.out.below hb); clear HB HX HY HRX HRY HLL; have HB := n0_; have HX := n1_; have HY := n2_; have HRX := n3_; have HRY := n4_; have HLL := n5_; clear n0_ n1_ n2_ n3_ n4_ n5_
          obtain ⟨N2, Ns2, N3, Ns3, rfl, ht⟩ := ht; have HN := Aside0.mk ht; clear ht
          clear hb
          (refine Shut.out hK _ _ (And.intro (four_cells HX.out) (four_cells HY.out)) (fun hHeld => ?_); clear hK K; (try simp only [Act.put, List.getElem_toArray, List.getElem_cons_zero, List.getElem_cons_succ, List.setIfInBounds_toArray, List.set_cons_zero, List.set_cons_succ]))
          (refine wpAnyH_ready (rs := [4]) (by kernel_rfl) (by simp) (AllReadyH.cons rfl (fun K hK => ?_) AllReadyH.nil); go_simp)
          refine (same_flat 1 n HN.out).mono ?_
          rintro e ww ⟨rfl, hb⟩
          have n0_ := Aside0.mk (below_step HB.out hb); have n1_ := Aside0.mk (HX.out.below hb); have n2_ := Aside0.mk (HY.out.below hb); have n3_ := Aside0.mk (HRX.out.below hb); have n4_ := Aside0.mk (HRY.out.below hb); have n5_ := Aside0.mk (HLL.out.below hb); clear HB HX HY HRX HRY HLL; have HB := n0_; have HX := n1_; have HY := n2_; have HRX := n3_; have HRY := n4_; have HLL := n5_; clear n0_ n1_ n2_ n3_ n4_ n5_
          clear hb
          (refine Shut.out hK _ _ (And.intro (four_cells HX.out) (four_cells HY.out)) (fun hHeld => ?_); clear hK K; (try simp only [Act.put, List.getElem_toArray, List.getElem_cons_zero, List.getElem_cons_succ, List.setIfInBounds_toArray, List.set_cons_zero, List.set_cons_succ]))
          (refine wpAnyH_take (i := 5) (v := ?_) rfl (by kernel_rfl) (by kernel_rfl) (by kernel_rfl) (fun _ _ _ h => h) (Or.inl ⟨by rfl, ?_⟩) (by assumption) ?_; (case' refine_2 => (intro w hSw; go_simp; try with_reducible rfl)); (try simp only [Act.put, List.getElem_toArray, List.getElem_cons_zero, List.getElem_cons_succ, List.setIfInBounds_toArray, List.set_cons_zero, List.set_cons_succ]))
          (refine wpAnyH_take (i := 6) (v := ?_) rfl (by kernel_rfl) (by kernel_rfl) (by kernel_rfl) (fun _ _ _ h => h) (Or.inl ⟨by rfl, ?_⟩) (by assumption) ?_; (case' refine_2 => (intro w hSw; go_simp; try with_reducible rfl)); (try simp only [Act.put, List.getElem_toArray, List.getElem_cons_zero, List.getElem_cons_succ, List.setIfInBounds_toArray, List.set_cons_zero, List.set_cons_succ]))
          (refine wpAnyH_take (i := 7) (v := ?_) rfl (by kernel_rfl) (by kernel_rfl) (by kernel_rfl) (fun _ _ _ h => h) (Or.inl ⟨by rfl, ?_⟩) (by assumption) ?_; (case' refine_2 => (intro w hSw; go_simp; try with_reducible rfl)); (try simp only [Act.put, List.getElem_toArray, List.getElem_cons_zero, List.getElem_cons_succ, List.setIfInBounds_toArray, List.set_cons_zero, List.set_cons_succ]))
          (refine wpAnyH_take (i := 9) (v := ?_) rfl (by kernel_rfl) (by kernel_rfl) (by kernel_rfl) (fun _ _ _ h => h) (Or.inl ⟨by rfl, ?_⟩) (by assumption) ?_; (case' refine_2 => (intro w hSw; go_simp; try with_reducible rfl)); (try simp only [Act.put, List.getElem_toArray, List.getElem_cons_zero, List.getElem_cons_succ, List.setIfInBounds_toArray, List.set_cons_zero, List.set_cons_succ]))
          (refine wpAnyH_take (i := 10) (v := ?_) rfl (by kernel_rfl) (by kernel_rfl) (by kernel_rfl) (fun _ _ _ h => h) (Or.inl ⟨by rfl, ?_⟩) (by assumption) ?_; (case' refine_2 => (intro w hSw; go_simp; try with_reducible rfl)); (try simp only [Act.put, List.getElem_toArray, List.getElem_cons_zero, List.getElem_cons_succ, List.setIfInBounds_toArray, List.set_cons_zero, List.set_cons_succ]))
          (refine wpAnyH_ready (rs := [8]) (by kernel_rfl) (by simp) (AllReadyH.cons rfl (fun K hK => ?_) AllReadyH.nil); go_simp)
          refine (key_c n _).mono ?_
          rintro e ww ⟨v, rfl, ht, hb⟩
          have n0_ := Aside0.mk (below_step HB.out hb); have n1_ := Aside0.mk (HX.out.below hb); have n2_ := Aside0.mk (HY.out.below hb); have n3_ := Aside0.mk (HRX.out.below hb); have n4_ := Aside0.mk (HRY.out.below hb); have n5_ := Aside0.mk (HLL.out.below hb); clear HB HX HY HRX HRY HLL; have HB := n0_; have HX := n1_; have HY := n2_; have HRX := n3_; have HRY := n4_; have HLL := n5_; clear n0_ n1_ n2_ n3_ n4_ n5_
          obtain ⟨K2, Ks2, K3, Ks3, rfl, ht⟩ := ht; have HK := Aside0.mk ht; clear ht
          clear hb
          (refine Shut.out hK _ _ (And.intro (four_cells HX.out) (four_cells HY.out)) (fun hHeld => ?_); clear hK K; (try simp only [Act.put, List.getElem_toArray, List.getElem_cons_zero, List.getElem_cons_succ, List.setIfInBounds_toArray, List.set_cons_zero, List.set_cons_succ]))
          (refine wpAnyH_ready (rs := [11]) (by kernel_rfl) (by simp) (AllReadyH.cons rfl (fun K hK => ?_) AllReadyH.nil); go_simp)
          refine (same_flat 2 n HK.out).mono ?_
          rintro e ww ⟨rfl, hb⟩
          have n0_ := Aside0.mk (below_step HB.out hb); have n1_ := Aside0.mk (HX.out.below hb); have n2_ := Aside0.mk (HY.out.below hb); have n3_ := Aside0.mk (HRX.out.below hb); have n4_ := Aside0.mk (HRY.out.below hb); have n5_ := Aside0.mk (HLL.out.below hb); clear HB HX HY HRX HRY HLL; have HB := n0_; have HX := n1_; have HY := n2_; have HRX := n3_; have HRY := n4_; have HLL := n5_; clear n0_ n1_ n2_ n3_ n4_ n5_
          clear hb
          (refine Shut.out hK _ _ (And.intro (four_cells HX.out) (four_cells HY.out)) (fun hHeld => ?_); clear hK K; (try simp only [Act.put, List.getElem_toArray, List.getElem_cons_zero, List.getElem_cons_succ, List.setIfInBounds_toArray, List.set_cons_zero, List.set_cons_succ]))
          (refine wpAnyH_take (i := 12) (v := ?_) rfl (by kernel_rfl) (by kernel_rfl) (by kernel_rfl) (fun _ _ _ h => h) (Or.inl ⟨by rfl, ?_⟩) (by assumption) ?_; (case' refine_2 => (intro w hSw; go_simp; try with_reducible rfl)); (try simp only [Act.put, List.getElem_toArray, List.getElem_cons_zero, List.getElem_cons_succ, List.setIfInBounds_toArray, List.set_cons_zero, List.set_cons_succ]))
          (refine wpAnyH_take (i := 13) (v := ?_) rfl (by kernel_rfl) (by kernel_rfl) (by kernel_rfl) (fun _ _ _ h => h) (Or.inl ⟨by rfl, ?_⟩) (by assumption) ?_; (case' refine_2 => (intro w hSw; go_simp; try with_reducible rfl)); (try simp only [Act.put, List.getElem_toArray, List.getElem_cons_zero, List.getElem_cons_succ, List.setIfInBounds_toArray, List.set_cons_zero, List.set_cons_succ]))
          (refine wpAnyH_take (i := 14) (v := ?_) rfl (by kernel_rfl) (by kernel_rfl) (by kernel_rfl) (fun _ _ _ h => h) (Or.inl ⟨by rfl, ?_⟩) (by assumption) ?_; (case' refine_2 => (intro w hSw; go_simp; try with_reducible rfl)); (try simp only [Act.put, List.getElem_toArray, List.getElem_cons_zero, List.getElem_cons_succ, List.setIfInBounds_toArray, List.set_cons_zero, List.set_cons_succ]))
          (refine wpAnyH_take (i := 15) (v := ?_) rfl (by kernel_rfl) (by kernel_rfl) (by kernel_rfl) (fun _ _ _ h => h) (Or.inl ⟨by rfl, ?_⟩) (by assumption) ?_; (case' refine_2 => (intro w hSw; go_simp; try with_reducible rfl)); (try simp only [Act.put, List.getElem_toArray, List.getElem_cons_zero, List.getElem_cons_succ, List.setIfInBounds_toArray, List.set_cons_zero, List.set_cons_succ]))
          (refine wpAnyH_take (i := 16) (v := ?_) rfl (by kernel_rfl) (by kernel_rfl) (by kernel_rfl) (fun _ _ _ h => h) (Or.inl ⟨by rfl, ?_⟩) (by assumption) ?_; (case' refine_2 => (intro w hSw; go_simp; try with_reducible rfl)); (try simp only [Act.put, List.getElem_toArray, List.getElem_cons_zero, List.getElem_cons_succ, List.setIfInBounds_toArray, List.set_cons_zero, List.set_cons_succ]))
          (refine wpAnyH_take (i := 18) (v := ?_) rfl (by kernel_rfl) (by kernel_rfl) (by kernel_rfl) (fun _ _ _ h => h) (Or.inl ⟨by rfl, ?_⟩) (by assumption) ?_; (case' refine_2 => (intro w hSw; go_simp; try with_reducible rfl)); (try simp only [Act.put, List.getElem_toArray, List.getElem_cons_zero, List.getElem_cons_succ, List.setIfInBounds_toArray, List.set_cons_zero, List.set_cons_succ]))
          (refine wpAnyH_take (i := 19) (v := ?_) rfl (by kernel_rfl) (by kernel_rfl) (by kernel_rfl) (fun _ _ _ h => h) (Or.inl ⟨by rfl, ?_⟩) (by assumption) ?_; (case' refine_2 => (intro w hSw; go_simp; try with_reducible rfl)); (try simp only [Act.put, List.getElem_toArray, List.getElem_cons_zero, List.getElem_cons_succ, List.setIfInBounds_toArray, List.set_cons_zero, List.set_cons_succ]))
          (refine wpAnyH_take (i := 20) (v := ?_) rfl (by kernel_rfl) (by kernel_rfl) (by kernel_rfl) (fun _ _ _ h => h) (Or.inl ⟨by rfl, ?_⟩) (by assumption) ?_; (case' refine_2 => (intro w hSw; go_simp; try with_reducible rfl)); (try simp only [Act.put, List.getElem_toArray, List.getElem_cons_zero, List.getElem_cons_succ, List.setIfInBounds_toArray, List.set_cons_zero, List.set_cons_succ]))
          (refine wpAnyH_ready (rs := [17]) (by kernel_rfl) (by simp) (AllReadyH.cons rfl (fun K hK => ?_) AllReadyH.nil); go_simp)
          refine (data_c HRX.out ((wfT_eq x).1 HW.out.1).2.1 HLEN.out.1).mono ?_
          rintro e ww ⟨v, rfl, ht, hb⟩
          have n0_ := Aside0.mk (below_step HB.out hb); have n1_ := Aside0.mk (HX.out.below hb); have n2_ := Aside0.mk (HY.out.below hb); have n3_ := Aside0.mk (HRX.out.below hb); have n4_ := Aside0.mk (HRY.out.below hb); have n5_ := Aside0.mk (HLL.out.below hb); clear HB HX HY HRX HRY HLL; have HB := n0_; have HX := n1_; have HY := n2_; have HRX := n3_; have HRY := n4_; have HLL := n5_; clear n0_ n1_ n2_ n3_ n4_ n5_
          obtain ⟨D2, Ds2, D3, Ds3, rfl, ht⟩ := ht; have HD := Aside0.mk ht; clear ht
          clear hb
          (refine Shut.out hK _ _ (And.intro (four_cells HX.out) (four_cells HY.out)) (fun hHeld => ?_); clear hK K; (try simp only [Act.put, List.getElem_toArray, List.getElem_cons_zero, List.getElem_cons_succ, List.setIfInBounds_toArray, List.set_cons_zero, List.set_cons_succ]))
          (refine wpAnyH_ready (rs := [21]) (by kernel_rfl) (by simp) (AllReadyH.cons rfl (fun K hK => ?_) AllReadyH.nil); go_simp)
          refine (same_data HLEN.out.1 HD.out HRX.out).mono ?_
          rintro e ww ⟨rfl, hb⟩
          have n0_ := Aside0.mk (below_step HB.out hb); have n1_ := Aside0.mk (HX.out.below hb); have n2_ := Aside0.mk (HY.out.below hb); have n3_ := Aside0.mk (HRX.out.below hb); have n4_ := Aside0.mk (HRY.out.below hb); have n5_ := Aside0.mk (HLL.out.below hb); clear HB HX HY HRX HRY HLL; have HB := n0_; have HX := n1_; have HY := n2_; have HRX := n3_; have HRY := n4_; have HLL := n5_; clear n0_ n1_ n2_ n3_ n4_ n5_
          clear hb
          (refine Shut.out hK _ _ (And.intro (four_cells HX.out) (four_cells HY.out)) (fun hHeld => ?_); clear hK K; (try simp only [Act.put, List.getElem_toArray, List.getElem_cons_zero, List.getElem_cons_succ, List.setIfInBounds_toArray, List.set_cons_zero, List.set_cons_succ]))
          (refine wpAnyH_take (i := 22) (v := ?_) rfl (by kernel_rfl) (by kernel_rfl) (by kernel_rfl) (fun _ _ _ h => h) (Or.inl ⟨by rfl, ?_⟩) (by assumption) ?_; (case' refine_2 => (intro w hSw; go_simp; try with_reducible rfl)); (try simp only [Act.put, List.getElem_toArray, List.getElem_cons_zero, List.getElem_cons_succ, List.setIfInBounds_toArray, List.set_cons_zero, List.set_cons_succ]))
          (refine wpAnyH_take (i := 23) (v := ?_) rfl (by kernel_rfl) (by kernel_rfl) (by kernel_rfl) (fun _ _ _ h => h) (Or.inl ⟨by rfl, ?_⟩) (by assumption) ?_; (case' refine_2 => (intro w hSw; go_simp; try with_reducible rfl)); (try simp only [Act.put, List.getElem_toArray, List.getElem_cons_zero, List.getElem_cons_succ, List.setIfInBounds_toArray, List.set_cons_zero, List.set_cons_succ]))
          refine wpAnyH_done (by kernel_rfl) ?_ _
          go_upto_region 11 with (fail)
          obtain ⟨bb, hbb⟩ : ∃ b, eqT x y = b := ⟨_, rfl⟩
          have hbd := below_drew1 (Below.refl ww.heap.size ww)
          have n0_ := Aside0.mk (below_step HB.out hbd); have n1_ := Aside0.mk (HX.out.below hbd); have n2_ := Aside0.mk (HY.out.below hbd); have n3_ := Aside0.mk (HRX.out.below hbd); have n4_ := Aside0.mk (HRY.out.below hbd); have n5_ := Aside0.mk (HLL.out.below hbd); clear HB HX HY HRX HRY HLL; have HB := n0_; have HX := n1_; have HY := n2_; have HRX := n3_; have HRY := n4_; have HLL := n5_; clear n0_ n1_ n2_ n3_ n4_ n5_
          clear hbd
          refine wp_region_held_drew (S := fun w' => (w'.cell? ⟨w.heap.size, 0, none⟩ = some (.int .i64 x.f0) ∧ w'.cell? ⟨w.heap.size, 1, none⟩ = some (.int .u64 x.f1) ∧ w'.cell? ⟨w.heap.size, 2, none⟩ = some (.slice A2 x.f2.length c2) ∧ w'.cell? ⟨w.heap.size, 3, none⟩ = some (.slice A3 x.f3.length c3)) ∧ (w'.cell? ⟨w.heap.size + 1, 0, none⟩ = some (.int .i64 y.f0) ∧ w'.cell? ⟨w.heap.size + 1, 1, none⟩ = some (.int .u64 y.f1) ∧ w'.cell? ⟨w.heap.size + 1, 2, none⟩ = some (.slice B2 y.f2.length d2) ∧ w'.cell? ⟨w.heap.size + 1, 3, none⟩ = some (.slice B3 y.f3.length d3))) (by kernel_rfl) (And.intro (four_cells HX.out) (four_cells HY.out)) (fun hHeld => ?_)
          (refine wpAnyH_take (i := 0) (v := ?_) rfl (by kernel_rfl) (by kernel_rfl) (by kernel_rfl) (fun _ _ _ h => h) (Or.inl ⟨by rfl, ?_⟩) (by assumption) ?_; (case' refine_2 => (intro w hSw; go_simp; try with_reducible rfl)); (try simp only [Act.put, List.getElem_toArray, List.getElem_cons_zero, List.getElem_cons_succ, List.setIfInBounds_toArray, List.set_cons_zero, List.set_cons_succ]))
          (refine wpAnyH_take (i := 1) (v := ?_) rfl (by kernel_rfl) (by kernel_rfl) (by kernel_rfl) (fun _ _ _ h => h) (Or.inl ⟨by rfl, ?_⟩) (by assumption) ?_; (case' refine_2 => (intro w hSw; go_simp; try with_reducible rfl)); (try simp only [Act.put, List.getElem_toArray, List.getElem_cons_zero, List.getElem_cons_succ, List.setIfInBounds_toArray, List.set_cons_zero, List.set_cons_succ]))
          (refine wpAnyH_take (i := 3) (v := ?_) rfl (by kernel_rfl) (by kernel_rfl) (by kernel_rfl) (fun _ _ _ h => h) (Or.inl ⟨by rfl, ?_⟩) (by assumption) ?_; (case' refine_2 => (intro w hSw; go_simp; try with_reducible rfl)); (try simp only [Act.put, List.getElem_toArray, List.getElem_cons_zero, List.getElem_cons_succ, List.setIfInBounds_toArray, List.set_cons_zero, List.set_cons_succ]))
          (refine wpAnyH_take (i := 4) (v := ?_) rfl (by kernel_rfl) (by kernel_rfl) (by kernel_rfl) (fun _ _ _ h => h) (Or.inl ⟨by rfl, ?_⟩) (by assumption) ?_; (case' refine_2 => (intro w hSw; go_simp; try with_reducible rfl)); (try simp only [Act.put, List.getElem_toArray, List.getElem_cons_zero, List.getElem_cons_succ, List.setIfInBounds_toArray, List.set_cons_zero, List.set_cons_succ]))
          (refine wpAnyH_ready (rs := [2]) (by kernel_rfl) (by simp) (AllReadyH.cons rfl (fun K hK => ?_) AllReadyH.nil); go_simp)
          refine (same2_c HW.out.1 HW.out.2 HRX.out HRY.out).mono ?_
          rintro e ww ⟨rfl, hb⟩
          have n0_ := Aside0.mk (below_step HB.out hb); have n1_ := Aside0.mk (HX.out.below hb); have n2_ := Aside0.mk (HY.out.below hb); have n3_ := Aside0.mk (HRX.out.below hb); have n4_ := Aside0.mk (HRY.out.below hb); have n5_ := Aside0.mk (HLL.out.below hb); clear HB HX HY HRX HRY HLL; have HB := n0_; have HX := n1_; have HY := n2_; have HRX := n3_; have HRY := n4_; have HLL := n5_; clear n0_ n1_ n2_ n3_ n4_ n5_
          rw [hbb]
          clear hb
          (refine Shut.out hK _ _ (And.intro (four_cells HX.out) (four_cells HY.out)) (fun hHeld => ?_); clear hK K; (try simp only [Act.put, List.getElem_toArray, List.getElem_cons_zero, List.getElem_cons_succ, List.setIfInBounds_toArray, List.set_cons_zero, List.set_cons_succ]))
          (refine wpAnyH_ready (rs := [5]) (by kernel_rfl) (by simp) (AllReadyH.cons rfl (fun K hK => ?_) AllReadyH.nil); go_simp)
          refine (rsame_c x y HLEN.out.1 A2 c2 A3 c3 B2 d2 B3 d3 _ HRX.out HRY.out).mono ?_
          rintro e ww ⟨rfl, hb⟩
          have n0_ := Aside0.mk (below_step HB.out hb); have n1_ := Aside0.mk (HX.out.below hb); have n2_ := Aside0.mk (HY.out.below hb); have n3_ := Aside0.mk (HRX.out.below hb); have n4_ := Aside0.mk (HRY.out.below hb); have n5_ := Aside0.mk (HLL.out.below hb); clear HB HX HY HRX HRY HLL; have HB := n0_; have HX := n1_; have HY := n2_; have HRX := n3_; have HRY := n4_; have HLL := n5_; clear n0_ n1_ n2_ n3_ n4_ n5_
          rw [hbb]
          clear hb
          (refine Shut.out hK _ _ (And.intro (four_cells HX.out) (four_cells HY.out)) (fun hHeld => ?_); clear hK K; (try simp only [Act.put, List.getElem_toArray, List.getElem_cons_zero, List.getElem_cons_succ, List.setIfInBounds_toArray, List.set_cons_zero, List.set_cons_succ]))
          (refine wpAnyH_take (i := 6) (v := ?_) rfl (by kernel_rfl) (by kernel_rfl) (by kernel_rfl) (fun _ _ _ h => h) (Or.inl ⟨by rfl, ?_⟩) (by assumption) ?_; (case' refine_2 => (intro w hSw; go_simp; try with_reducible rfl)); (try simp only [Act.put, List.getElem_toArray, List.getElem_cons_zero, List.getElem_cons_succ, List.setIfInBounds_toArray, List.set_cons_zero, List.set_cons_succ]))
          (refine wpAnyH_take (i := 7) (v := ?_) rfl (by kernel_rfl) (by kernel_rfl) (by kernel_rfl) (fun _ _ _ h => h) (Or.inl ⟨by rfl, ?_⟩) (by assumption) ?_; (case' refine_2 => (intro w hSw; go_simp; try with_reducible rfl)); (try simp only [Act.put, List.getElem_toArray, List.getElem_cons_zero, List.getElem_cons_succ, List.setIfInBounds_toArray, List.set_cons_zero, List.set_cons_succ]))
          (refine wpAnyH_take (i := 8) (v := ?_) rfl (by kernel_rfl) (by kernel_rfl) (by kernel_rfl) (fun _ _ _ h => h) (Or.inl ⟨by rfl, ?_⟩) (by assumption) ?_; (case' refine_2 => (intro w hSw; go_simp; try with_reducible rfl)); (try simp only [Act.put, List.getElem_toArray, List.getElem_cons_zero, List.getElem_cons_succ, List.setIfInBounds_toArray, List.set_cons_zero, List.set_cons_succ]))
          (refine wpAnyH_take (i := 9) (v := ?_) rfl (by kernel_rfl) (by kernel_rfl) (by kernel_rfl) (fun _ _ _ h => h) (Or.inl ⟨by rfl, ?_⟩) (by assumption) ?_; (case' refine_2 => (intro w hSw; go_simp; try with_reducible rfl)); (try simp only [Act.put, List.getElem_toArray, List.getElem_cons_zero, List.getElem_cons_succ, List.setIfInBounds_toArray, List.set_cons_zero, List.set_cons_succ]))
          (refine wpAnyH_ready (rs := [10]) (by kernel_rfl) (by simp) (AllReadyH.cons rfl (fun K hK => ?_) AllReadyH.nil); go_simp)
          refine (same2_c HW.out.1 HW.out.1 HRX.out HRX.out).mono ?_
          rintro e ww ⟨rfl, hb⟩
          have n0_ := Aside0.mk (below_step HB.out hb); have n1_ := Aside0.mk (HX.out.below hb); have n2_ := Aside0.mk (HY.out.below hb); have n3_ := Aside0.mk (HRX.out.below hb); have n4_ := Aside0.mk (HRY.out.below hb); have n5_ := Aside0.mk (HLL.out.below hb); clear HB HX HY HRX HRY HLL; have HB := n0_; have HX := n1_; have HY := n2_; have HRX := n3_; have HRY := n4_; have HLL := n5_; clear n0_ n1_ n2_ n3_ n4_ n5_
          rw [eqT_refl]
          clear hb
          (refine Shut.out hK _ _ (And.intro (four_cells HX.out) (four_cells HY.out)) (fun hHeld => ?_); clear hK K; (try simp only [Act.put, List.getElem_toArray, List.getElem_cons_zero, List.getElem_cons_succ, List.setIfInBounds_toArray, List.set_cons_zero, List.set_cons_succ]))
          (refine wpAnyH_take (i := 11) (v := ?_) rfl (by kernel_rfl) (by kernel_rfl) (by kernel_rfl) (fun _ _ _ h => h) (Or.inl ⟨by rfl, ?_⟩) (by assumption) ?_; (case' refine_2 => (intro w hSw; go_simp; try with_reducible rfl)); (try simp only [Act.put, List.getElem_toArray, List.getElem_cons_zero, List.getElem_cons_succ, List.setIfInBounds_toArray, List.set_cons_zero, List.set_cons_succ]))
          (refine wpAnyH_take (i := 12) (v := ?_) rfl (by kernel_rfl) (by kernel_rfl) (by kernel_rfl) (fun _ _ _ h => h) (Or.inl ⟨by rfl, ?_⟩) (by assumption) ?_; (case' refine_2 => (intro w hSw; go_simp; try with_reducible rfl)); (try simp only [Act.put, List.getElem_toArray, List.getElem_cons_zero, List.getElem_cons_succ, List.setIfInBounds_toArray, List.set_cons_zero, List.set_cons_succ]))
          (refine wpAnyH_take (i := 13) (v := ?_) rfl (by kernel_rfl) (by kernel_rfl) (by kernel_rfl) (fun _ _ _ h => h) (Or.inl ⟨by rfl, ?_⟩) (by assumption) ?_; (case' refine_2 => (intro w hSw; go_simp; try with_reducible rfl)); (try simp only [Act.put, List.getElem_toArray, List.getElem_cons_zero, List.getElem_cons_succ, List.setIfInBounds_toArray, List.set_cons_zero, List.set_cons_succ]))
          (refine wpAnyH_take (i := 15) (v := ?_) rfl (by kernel_rfl) (by kernel_rfl) (by kernel_rfl) (fun _ _ _ h => h) (Or.inl ⟨by rfl, ?_⟩) (by assumption) ?_; (case' refine_2 => (intro w hSw; go_simp; try with_reducible rfl)); (try simp only [Act.put, List.getElem_toArray, List.getElem_cons_zero, List.getElem_cons_succ, List.setIfInBounds_toArray, List.set_cons_zero, List.set_cons_succ]))
          (refine wpAnyH_ready (rs := [14]) (by kernel_rfl) (by simp) (AllReadyH.cons rfl (fun K hK => ?_) AllReadyH.nil); go_simp)
          refine (parts2_c HW.out.1 HRX.out).mono ?_
          rintro e ww ⟨v, rfl, hl, hb⟩
          have n0_ := Aside0.mk (below_step HB.out hb); have n1_ := Aside0.mk (HX.out.below hb); have n2_ := Aside0.mk (HY.out.below hb); have n3_ := Aside0.mk (HRX.out.below hb); have n4_ := Aside0.mk (HRY.out.below hb); have n5_ := Aside0.mk (HLL.out.below hb); clear HB HX HY HRX HRY HLL; have HB := n0_; have HX := n1_; have HY := n2_; have HRX := n3_; have HRY := n4_; have HLL := n5_; clear n0_ n1_ n2_ n3_ n4_ n5_
          obtain ⟨AP, cP, rfl, hl1, hl2⟩ := hl; have HPP := Aside0.mk (And.intro hl1 hl2); clear hl1 hl2; obtain ⟨AQ, cQ, eQ, hq1, hq2⟩ := HLL.out; injection eQ with e1 _ e3; subst e1 e3; have HQQ := Aside0.mk (And.intro hq1 hq2); clear hq1 hq2
          clear hb
          (refine Shut.out hK _ _ (And.intro (four_cells HX.out) (four_cells HY.out)) (fun hHeld => ?_); clear hK K; (try simp only [Act.put, List.getElem_toArray, List.getElem_cons_zero, List.getElem_cons_succ, List.setIfInBounds_toArray, List.set_cons_zero, List.set_cons_succ]))
          (refine wpAnyH_ready (rs := [16]) (by kernel_rfl) (by simp) (AllReadyH.cons rfl (fun K hK => ?_) AllReadyH.nil); go_simp)
          refine (sameall_c HLEN.out.1 HPP.out.1 HPP.out.2 HQQ.out.1 HQQ.out.2).mono ?_
          rintro e ww ⟨rfl, hb⟩
          have n0_ := Aside0.mk (below_step HB.out hb); have n1_ := Aside0.mk (HX.out.below hb); have n2_ := Aside0.mk (HY.out.below hb); have n3_ := Aside0.mk (HRX.out.below hb); have n4_ := Aside0.mk (HRY.out.below hb); have n5_ := Aside0.mk (HLL.out.below hb); clear HB HX HY HRX HRY HLL; have HB := n0_; have HX := n1_; have HY := n2_; have HRX := n3_; have HRY := n4_; have HLL := n5_; clear n0_ n1_ n2_ n3_ n4_ n5_
          clear hb
          (refine Shut.out hK _ _ (And.intro (four_cells HX.out) (four_cells HY.out)) (fun hHeld => ?_); clear hK K; (try simp only [Act.put, List.getElem_toArray, List.getElem_cons_zero, List.getElem_cons_succ, List.setIfInBounds_toArray, List.set_cons_zero, List.set_cons_succ]))
          (refine wpAnyH_take (i := 17) (v := ?_) rfl (by kernel_rfl) (by kernel_rfl) (by kernel_rfl) (fun _ _ _ h => h) (Or.inl ⟨by rfl, ?_⟩) (by assumption) ?_; (case' refine_2 => (intro w hSw; go_simp; try with_reducible rfl)); (try simp only [Act.put, List.getElem_toArray, List.getElem_cons_zero, List.getElem_cons_succ, List.setIfInBounds_toArray, List.set_cons_zero, List.set_cons_succ]))
          (refine wpAnyH_take (i := 18) (v := ?_) rfl (by kernel_rfl) (by kernel_rfl) (by kernel_rfl) (fun _ _ _ h => h) (Or.inl ⟨by rfl, ?_⟩) (by assumption) ?_; (case' refine_2 => (intro w hSw; go_simp; try with_reducible rfl)); (try simp only [Act.put, List.getElem_toArray, List.getElem_cons_zero, List.getElem_cons_succ, List.setIfInBounds_toArray, List.set_cons_zero, List.set_cons_succ]))
          (refine wpAnyH_ready (rs := [19]) (by kernel_rfl) (by simp) (AllReadyH.cons rfl (fun K hK => ?_) AllReadyH.nil); go_simp)
          refine (live_c _).mono ?_
          rintro e ww ⟨rfl, hb⟩
          have n0_ := Aside0.mk (below_step HB.out hb); have n1_ := Aside0.mk (HX.out.below hb); have n2_ := Aside0.mk (HY.out.below hb); have n3_ := Aside0.mk (HRX.out.below hb); have n4_ := Aside0.mk (HRY.out.below hb); have n5_ := Aside0.mk (HLL.out.below hb); clear HB HX HY HRX HRY HLL; have HB := n0_; have HX := n1_; have HY := n2_; have HRX := n3_; have HRY := n4_; have HLL := n5_; clear n0_ n1_ n2_ n3_ n4_ n5_
          clear hb
          (refine Shut.out hK _ _ (And.intro (four_cells HX.out) (four_cells HY.out)) (fun hHeld => ?_); clear hK K; (try simp only [Act.put, List.getElem_toArray, List.getElem_cons_zero, List.getElem_cons_succ, List.setIfInBounds_toArray, List.set_cons_zero, List.set_cons_succ]))
          (refine wpAnyH_take (i := 20) (v := ?_) rfl (by kernel_rfl) (by kernel_rfl) (by kernel_rfl) (fun _ _ _ h => h) (Or.inl ⟨by rfl, ?_⟩) (by assumption) ?_; (case' refine_2 => (intro w hSw; go_simp; try with_reducible rfl)); (try simp only [Act.put, List.getElem_toArray, List.getElem_cons_zero, List.getElem_cons_succ, List.setIfInBounds_toArray, List.set_cons_zero, List.set_cons_succ]))
          (refine wpAnyH_take (i := 21) (v := ?_) rfl (by kernel_rfl) (by kernel_rfl) (by kernel_rfl) (fun _ _ _ h => h) (Or.inl ⟨by rfl, ?_⟩) (by assumption) ?_; (case' refine_2 => (intro w hSw; go_simp; try with_reducible rfl)); (try simp only [Act.put, List.getElem_toArray, List.getElem_cons_zero, List.getElem_cons_succ, List.setIfInBounds_toArray, List.set_cons_zero, List.set_cons_succ]))
          refine wpAnyH_done (by kernel_rfl) ?_ _
          go_wp2_with (fail)
          go_ret
          exact ⟨rfl, HB.out⟩
end Go.Proofs.Ytgohmganimamcaa.Term
