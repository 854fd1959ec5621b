import Derived.Test.YtbebkogkeepfoaaShaParts
import Derived.Test.YtbebkogkeepfoaaShaSums
import Derived.Test.YtbebkogkeepfoaaOpen
import Derived.Test.YtbebkogkeepfoaaLo0
import Derived.Test.YtbebkogkeepfoaaPZxFhanaperref07Text
import Derived.WideShapes
/- commit: sum walked. -/
namespace Go.Proofs.Ytbebkogkeepfoaa.Com
set_option linter.unusedVariables false
set_option linter.unusedSimpArgs false
open Go.RowKit Go.Proofs.Ytbebkogkeepfoaa.Base Go.Proofs.Ytbebkogkeepfoaa.ShaPlain Go.Proofs.Ytbebkogkeepfoaa.Sha Go.Proofs.Ytbebkogkeepfoaa.Aid Go.Proofs.YtbebkogkeepfoaaW.PrintWords Go.Proofs.YtbebkogkeepfoaaW.PrintLast Go.Proofs.YtbebkogkeepfoaaW.PrintMore
theorem info_row : (Try.prog.info? 22).map (fun i => (i.zero, i.size, i.bytes)) = some (some (.slice none 0 0), 1, 24) := by kernel_rfl
/-- What lies in the cells of rows, and what it reads as. -/
def IsRow (w : World) (l : List (List Int)) (vs : List (List Value)) : Prop := vs.length = l.length ∧ ∀ (j : Nat) (b : List Int), l[j]? = some b → ∃ (A : Option Addr) (c : Nat), vs[j]? = some [Value.slice A b.length c] ∧ b.length ≤ c ∧ Rb w A b
theorem IsRow.below {w w1 : World} {l : List (List Int)} {vs : List (List Value)} (h : IsRow w l vs) (hb : Below w.heap.size w w1) : IsRow w1 l vs :=
  ⟨h.1, fun j b hj => by obtain ⟨A, c, h1, h2, h3⟩ := h.2 j b hj; exact ⟨A, c, h1, h2, Kd.C_below h3 hb⟩⟩
theorem raw_of_rows {w : World} {A : Option Addr} {l : List (List Int)} (h : Rr w A l) : ∃ vs, IsRow w l vs ∧ Kd.C (Kd.raw 1) w A l.length vs := by
  by_cases h0 : l.length = 0
  · refine ⟨[], ⟨by simp [h0], fun j b hj => ?_⟩, by simp [h0], by omega, fun h => by omega⟩
    have := (List.getElem?_eq_some_iff.1 hj).1
    omega
  · obtain ⟨ad, hA, hc⟩ := h.2.2 (by omega)
    obtain ⟨vs, hl, hv⟩ := Open.choose_list (p := fun (j : Nat) (v : Value) => ∃ (b : List Int) (A1 : Option Addr) (c1 : Nat), l[j]? = some b ∧ v = .slice A1 b.length c1 ∧ b.length ≤ c1 ∧ Rb w A1 b ∧ w.cell? (ad.add j) = some v) l.length (fun j hj => by
      obtain ⟨ad', A1, c1, e, h1, h2, h3⟩ := rows_at h j hj
      rw [hA] at e
      injection e with e
      subst e
      exact ⟨_, l[j], A1, c1, List.getElem?_eq_getElem hj, rfl, h2, h3, h1⟩)
    refine ⟨vs.map fun v => [v], ⟨by simp [hl], fun j b hj => ?_⟩, by simp [hl], h.2.1, fun _ => ⟨ad, hA, fun j p hj => ?_⟩⟩
    · have hjl := (List.getElem?_eq_some_iff.1 hj).1
      obtain ⟨b', A1, c1, e, rfl', h2, h3, _⟩ := hv j (vs[j]'(by omega)) (List.getElem?_eq_getElem _)
      rw [hj] at e
      injection e with e
      subst e
      exact ⟨A1, c1, by rw [List.getElem?_map, List.getElem?_eq_getElem (by omega), rfl']; rfl, h2, h3⟩
    · rw [List.getElem?_map] at hj
      obtain ⟨v, hv', rfl⟩ := Option.map_eq_some_iff.1 hj
      obtain ⟨b', A1, c1, e, rfl, h2, h3, h4⟩ := hv j v hv'
      refine ⟨[.slice A1 b'.length c1], rfl, ⟨rfl, rfl, by simp; rfl⟩, fun i u hu => ?_⟩
      have hi0 : i = 0 := by
        have := (List.getElem?_eq_some_iff.1 hu).1
        simp at this
        exact this
      subst hi0
      rw [show j * (Kd.raw 1).sz + 0 = j from by show j * 1 + 0 = j; omega, h4]
      exact hu
theorem rows_of_raw {w : World} {A : Option Addr} {l : List (List Int)} {vs : List (List Value)} (h : Kd.C (Kd.raw 1) w A vs.length vs) (hi : IsRow w l vs) : Rr w A l := by
  refine ⟨rfl, by rw [← hi.1]; exact h.2.1, fun h0 => ?_⟩
  obtain ⟨ad, hA, hc⟩ := h.2.2 (by rw [hi.1]; exact h0)
  refine ⟨ad, hA, fun j b hj => ?_⟩
  obtain ⟨A1, c1, h1, h2, h3⟩ := hi.2 j b hj
  obtain ⟨cs, _, ⟨e, _, _⟩, h4⟩ := hc j _ h1
  subst e
  exact ⟨_, rfl, ⟨A1, c1, rfl, h2, h3⟩, h4⟩
theorem IsRow.cons {w : World} {l : List (List Int)} {vs : List (List Value)} {b : List Int} {A : Option Addr} {c : Nat} (h : IsRow w l vs) (hr : Rb w A b) (hc : b.length ≤ c) : IsRow w (b :: l) ([.slice A b.length c] :: vs) := by
  refine ⟨by simp [h.1], fun j x hj => ?_⟩
  cases j with
  | zero =>
    injection hj with hj
    subst hj
    exact ⟨A, c, rfl, hc, hr⟩
  | succ j => exact h.2 j x hj
theorem one_raw {w : World} {base : Nat} {ok : Nat → Prop} (v : Value) (h : v.oneCell' = true) : Reps ((Kd.raw 1).M w base ok) (Kd.raw 1).sz [[v]] [v] :=
  ⟨rfl, fun j p hj => by
    cases j with
    | zero =>
      injection hj with hj
      subst hj
      exact ⟨rfl, rfl, fun u hu => by rw [List.mem_singleton.1 hu]; exact h⟩
    | succ j => simp at hj⟩
set_option maxHeartbeats 4000000 in
set_option maxRecDepth 100000 in
theorem csum_c (tag : Int) (ht : 0 ≤ tag ∧ tag ≤ 255) (A : Option Addr) (c : Nat) (l : List (List Int)) (w : World) (hr : Rr w A l) (hc : l.length ≤ c) (hu : ∀ p ∈ l, ∀ x ∈ p, 0 ≤ x ∧ x ≤ 255) (hn : l.flatten.length ≤ 1000000) (hl : l.length ≤ 1000) :
    Calls Try.prog 48 #[.int .u8 tag, .slice A l.length c] w fun e w' => e = .returned (sumV (shaB (tag :: l.flatten))) ∧ Below w.heap.size w w' := by
  obtain ⟨vs, hi, hraw⟩ := raw_of_rows hr
  have HT := Aside0.mk ht
  have HI := Aside0.mk hi
  have HRAW := Aside0.mk hraw
  have HU := Aside0.mk hu
  have HN := Aside0.mk hn
  have HL := Aside0.mk hl
  have HZ := Aside0.mk (show (w.alloc (.cells Z32 24)).heap[w.heap.size]? = some (.cells Z32 24 (0, 0)) from blk_new _ _)
  have HB := Aside0.mk (below_alloc (Below.refl w.heap.size w) (.cells Z32 24))
  clear hr hu hn hl hi hraw ht
  go_enter Try.func48, Try.ntmps48
  go_wp2_with (first
    | ((with_reducible refine gate_dst (N := 7) rfl ?_); (try (refine gate_guard (by rfl) ?_; dsimp only)); refine lit_bytes (N := 7) ?hg ?hd [tag] [.int .u8 (tag)] rfl ?hr (by simp) ?_; (case hd => rfl); (case hg => rfl); (case hr => first | (go_simp; done) | (go_simp; rfl)); intro v w1 ho hb; have n2_ := Aside0.mk (below_step HB.out hb); have n3_ := Aside0.mk (blk_below HZ.out hb); clear HB HZ; have HB := n2_; have HZ := n3_; clear n2_ n3_ hb; obtain ⟨Aq, cq, rfl, hl_, hr_⟩ := Ob.reads ho; have HRq := Aside0.mk hr_; have HLq := Aside0.mk hl_; clear ho hl_ hr_)
    | ((with_reducible refine gate_dst (N := 8) rfl ?_); refine Kd.R_lit (Kd.raw 1) (w0 := w1) w1.heap.size 22 ?hg8 (N := 8) ?hd8 (xs := [[.slice Aq 1 cq]]) (inner := [.slice Aq 1 cq]) (ok := fun _ => True) (okp := fun _ => True) ?hr8 (one_raw _ rfl) (fun _ hk => hk) trivial (Below.refl _ _) (Nat.le_refl _) (by simp) ?_; (case hd8 => rfl); (case hg8 => rfl); (case hr8 => first | (go_simp; done) | (go_simp; rfl)); intro v0 w3 ho4 hb hg_ hnew_; have HO := Aside0.mk ho4; have HB3 := Aside0.mk hb; clear hb ho4 hg_ hnew_)
    | ((with_reducible refine gate_builtin (b := .append) (xs := #[.tmp 8, .tmp 9]) rfl ?_); at_builtin; refine Kd.R_append_rows (Kd.raw 1) (w0 := w1) w1.heap.size rfl (.tmp 8) (.tmp 9) 29 22 (.slice none 0 0) 24 rfl Try.underlying29 info_row rfl (by decide) (by omega) v0 [[.slice Aq 1 cq]] vs _ _ _ (fun _ => True) (fun _ => False) rfl rfl HO.out (Kd.C_below HRAW.out (below_step HB.out HB3.out)) (fun _ _ h => h) (fun _ h => h.elim) (fun _ _ => trivial) HB3.out HB3.out.size (by have := HL.out; simp; omega) ?_; intro v1 w5 ho hb hg hat; have HO5 := Aside0.mk ho; have HB5 := Aside0.mk hb; clear ho hb hg hat))
  obtain ⟨A5, c5, rfl, hc5, hr5⟩ := Kd.R_reads HO5.out
  have HZ5 := Aside0.mk (blk_below HZ.out HB5.out)
  have HBW := Aside0.mk (below_step HB.out HB5.out)
  have HRR := Aside0.mk (rows_of_raw hr5 ((HI.out.below HBW.out).cons (Kd.C_below HRq.out HB5.out) (b := [tag]) HLq.out))
  obtain ⟨nn, hnn⟩ : ∃ nn, ([[Value.slice Aq 1 cq]] ++ vs).length = nn := ⟨_, rfl⟩
  have hne : nn = ([tag] :: l).length := by rw [← hnn]; simp [HI.out.1]
  have HC5 := Aside0.mk hc5
  rw [hnn] at HC5 ⊢
  have HCALL := Aside0.mk (show Calls Try.prog 14 #[.slice A5 nn c5] w5 fun e w' => e = .returned (sumV (shaB (tag :: l.flatten))) ∧ Below w5.heap.size w5 w' by
    have h := of_c A5 c5 ([tag] :: l) w5 HRR.out (by rw [← hne]; exact HC5.out) (by
      intro p hp x hx
      rcases List.mem_cons.1 hp with rfl | hp
      · rw [List.mem_singleton.1 hx]; exact HT.out
      · exact HU.out p hp x hx) (by have := HN.out; simp only [List.flatten_cons, List.length_append, List.length_cons, List.length_nil]; omega) (by have := HL.out; simp only [List.length_cons]; omega)
    rw [hne]
    exact h)
  obtain ⟨D, hD⟩ : ∃ D, (nums .u8 (shaB (tag :: l.flatten))).toArray = D := ⟨_, rfl⟩
  have HD := Aside0.mk hD
  have hds : D.size = 32 := by rw [← hD]; simp [nums, shaB_len]
  have HIF := Aside0.mk (show (Try.prog.info? 24).map (·.size) = some D.size by rw [hds]; exact info_32)
  have HSZ := Aside0.mk (show Z32.size = D.size by rw [hds]; simp [Z32, nums])
  have HONE := Aside0.mk (show D.all (·.oneCell') = true by rw [← hD]; exact nums_one _ _)
  clear hc5 hr5 hnn hne hD hds HO HO5 HRR
  go_wp2_with (fail)
  refine HCALL.out.mono ?_
  rintro e w6 ⟨rfl, hb6⟩
  rw [show sumV (shaB (tag :: l.flatten)) = .agg D by rw [← HD.out]]
  have HZ6 := Aside0.mk (blk_below HZ5.out hb6)
  have HB6 := Aside0.mk (below_step HBW.out hb6)
  clear hb6
  go_wp2_with ((with_reducible refine gate_store (t := 24) (p := 4) (v := .tmp 12) rfl ?_); refine wpList_store_row rfl 24 (.tmp 4) (.tmp 12) rfl w.heap.size D rfl rfl 24 Z32 HZ6.out HIF.out HSZ.out HONE.out ?_)
  have HSR := setRow_heap w6 w.heap.size Z32 D _ _ HZ6.out
  refine bodyPost_ret (v := .agg D) (results_cell_row rfl _ _ w.heap.size 24 D (0, 0) _ rfl HSR Try.underlying24 rfl HIF.out) rfl ⟨by rw [← HD.out], below_setRow HB6.out (Nat.le_refl _) D⟩
end Go.Proofs.Ytbebkogkeepfoaa.Com
/- commit: Of walked, and the document's. -/
namespace Go.Proofs.Ytbebkogkeepfoaa.Com
set_option linter.unusedVariables false
set_option linter.unusedSimpArgs false
open Go.RowKit Go.Proofs.Ytbebkogkeepfoaa.Base Go.Proofs.Ytbebkogkeepfoaa.TlvPlain Go.Proofs.Ytbebkogkeepfoaa.ShaPlain Go.Proofs.Ytbebkogkeepfoaa.Sha Go.Proofs.Ytbebkogkeepfoaa.Lo Go.Proofs.Ytbebkogkeepfoaa.Aid Go.Proofs.YtbebkogkeepfoaaW.PrintWords Go.Proofs.YtbebkogkeepfoaaW.PrintLast Go.Proofs.YtbebkogkeepfoaaW.PrintMore Go.Proofs.Ytbebkogkeepfoaa.PZ
/-- What is summed for a commitment. -/
def comB (salt : Int) (b : List Int) : List Int := 1 :: (numB salt ++ textB b)
theorem textB_u8 {l : List Int} (h : U8 l) (hl : l.length ≤ 1000000) : U8 (textB l) := fun x hx => (List.mem_append.1 hx).elim (numB_u8 (by omega) x) (h x)
theorem textB_len {l : List Int} (hl : l.length ≤ 1000000) : (textB l).length ≤ l.length + 9 := by
  have := numB_len (n := (l.length : Int)) (by omega)
  unfold textB
  rw [List.length_append]
  omega
theorem comB_len {salt : Int} {b : List Int} (h1 : salt ≤ 18446744073709551615) (hl : b.length ≤ 1000000) : (comB salt b).length ≤ b.length + 19 := by
  have h := numB_len h1
  have h2 := textB_len hl
  unfold comB
  rw [List.length_cons, List.length_append]
  omega
theorem comB_u8 {salt : Int} {b : List Int} (h1 : salt ≤ 18446744073709551615) (hu : U8 b) (hl : b.length ≤ 1000000) : U8 (comB salt b) := by
  intro x hx
  rcases List.mem_cons.1 hx with rfl | hx
  · exact ⟨by decide, by decide⟩
  · exact (List.mem_append.1 hx).elim (numB_u8 h1 x) (textB_u8 hu hl x)
theorem rtxt_ev (salt : Int) (h0 : 0 ≤ salt) (h1 : salt ≤ 18446744073709551615) (l : List Int) (h : l.length ≤ 1000000) : Ev (fun k => hanaperref07_Text.f k salt l) (comB salt l) := by
  have e1 := numB_len h1
  have e2 := textB_len h
  unfold hanaperref07_Text.f
  refine bindSome rfl (evBind (rnum_ev salt h0 h1) (pos (by simp; omega) (bindSome rfl (evBind (rtext_ev l (by omega)) (pos (by simp; omega) (now ?_))))))
  simp [comB]
theorem rtxt_c (salt : Int) (h0 : 0 ≤ salt) (h1 : salt ≤ 18446744073709551615) (A : Option Addr) (c : Nat) (l : List Int) (w : World) (hr : Rb w A l) (hc : l.length ≤ c) (hl : l.length ≤ 1000000) :
    Calls Try.prog 28 #[.int .u64 salt, .slice A l.length c] w (Makes w (comB salt l)) := by
  obtain ⟨k, h⟩ := (rtxt_ev salt h0 h1 l hl).rounds
  exact hanaperref07_Text.calls k salt A c l _ w hr hc h
set_option maxHeartbeats 4000000 in
set_option maxRecDepth 100000 in
theorem cof_c (salt : Int) (h0 : 0 ≤ salt) (h1 : salt ≤ 18446744073709551615) (A : Option Addr) (c : Nat) (l : List Int) (w : World) (hr : Rb w A l) (hc : l.length ≤ c) (hu : U8 l) (hl : l.length ≤ 100000) :
    Calls Try.prog 22 #[.int .u64 salt, .slice A l.length c] w fun e w' => e = .returned (sumV (shaB (comB salt l))) ∧ Below w.heap.size w w' := by
  have HS := Aside0.mk (And.intro h0 h1)
  have HR := Aside0.mk hr
  have HC := Aside0.mk hc
  have HU := Aside0.mk hu
  have HL := Aside0.mk hl
  have HZ := Aside0.mk (show (w.alloc (.cells Z32 24)).heap[w.heap.size]? = some (.cells Z32 24 (0, 0)) from blk_new _ _)
  have HB := Aside0.mk (below_alloc (Below.refl w.heap.size w) (.cells Z32 24))
  clear hr hu hl hc h0 h1
  go_enter Try.func22, Try.ntmps22
  go_wp2_with (fail)
  refine (num_c salt _ HS.out.1 HS.out.2).mono ?_
  rintro e w1 ⟨v, rfl, ho, hb⟩
  have HZ1 := Aside0.mk (blk_below HZ.out hb)
  have HB1 := Aside0.mk (below_step HB.out hb)
  clear hb HZ HB
  obtain ⟨An, cn, rfl, hl_, hr_⟩ := Ob.reads ho; have HRn := Aside0.mk hr_; have HLn := Aside0.mk hl_; clear ho hl_ hr_
  go_wp2_with (fail)
  refine (text_c A c l w1 (Kd.C_below HR.out HB1.out) HC.out (by have := HL.out; omega)).mono ?_
  rintro e w2 ⟨v, rfl, ho, hb⟩
  have HZ2 := Aside0.mk (blk_below HZ1.out hb)
  have HB2 := Aside0.mk (below_step HB1.out hb)
  have HRn2 := Aside0.mk (Kd.C_below HRn.out hb)
  clear hb
  obtain ⟨At, ct, rfl, hl_, hr_⟩ := Ob.reads ho; have HRt := Aside0.mk hr_; have HLt := Aside0.mk hl_; clear ho hl_ hr_
  go_wp2_with ((with_reducible refine gate_dst (N := 9) rfl ?_); refine lit_rows (N := 9) (e := 22) ?hg ?hd [numB salt, textB l] [.slice An (numB salt).length cn, .slice At (textB l).length ct] (rows2 HRn2.out HLn.out HRt.out HLt.out) ?hr (by simp) ?_; (case hd => rfl); (case hg => rfl); (case hr => first | (go_simp; done) | (go_simp; rfl)); intro A9 w4 hrr hb; have HRR := Aside0.mk hrr; have HZ4 := Aside0.mk (blk_below HZ2.out hb); have HB4 := Aside0.mk (below_step HB2.out hb); clear hb hrr)
  obtain ⟨D, hD⟩ : ∃ D, (nums .u8 (shaB (comB salt l))).toArray = D := ⟨_, rfl⟩
  have HD := Aside0.mk hD
  have hds : D.size = 32 := by rw [← hD]; simp [nums, shaB_len]
  have HIF := Aside0.mk (show (Try.prog.info? 24).map (·.size) = some D.size by rw [hds]; exact info_32)
  have HSZ := Aside0.mk (show Z32.size = D.size by rw [hds]; simp [Z32, nums])
  have HONE := Aside0.mk (show D.all (·.oneCell') = true by rw [← hD]; exact nums_one _ _)
  clear hD hds
  refine (csum_c 1 (by decide) A9 2 [numB salt, textB l] w4 HRR.out (by simp) (by
    intro p hp x hx
    rcases List.mem_cons.1 hp with rfl | hp
    · exact numB_u8 HS.out.2 x hx
    · rw [List.mem_singleton.1 hp] at hx
      exact textB_u8 HU.out (by have := HL.out; omega) x hx) (by
    have h2 := numB_len HS.out.2
    have h3 := textB_len (l := l) (by have := HL.out; omega)
    have h4 := HL.out
    simp only [List.flatten_cons, List.flatten_nil, List.append_nil, List.length_append]
    omega) (by simp)).mono ?_
  rintro e w6 ⟨rfl, hb6⟩
  rw [show sumV (shaB (1 :: [numB salt, textB l].flatten)) = .agg D by rw [← HD.out, comB]; simp]
  have HZ6 := Aside0.mk (blk_below HZ4.out hb6)
  have HB6 := Aside0.mk (below_step HB4.out hb6)
  clear hb6
  go_wp2_with ((with_reducible refine gate_store (t := 24) (p := 4) (v := .tmp 10) rfl ?_); refine wpList_store_row rfl 24 (.tmp 4) (.tmp 10) rfl w.heap.size D rfl rfl 24 Z32 HZ6.out HIF.out HSZ.out HONE.out ?_)
  have HSR := setRow_heap w6 w.heap.size Z32 D _ _ HZ6.out
  refine bodyPost_ret (v := .agg D) (results_cell_row rfl _ _ w.heap.size 24 D (0, 0) _ rfl HSR Try.underlying24 rfl HIF.out) rfl ⟨by rw [← HD.out], below_setRow HB6.out (Nat.le_refl _) D⟩
set_option maxHeartbeats 4000000 in
set_option maxRecDepth 100000 in
theorem rcof_c (salt : Int) (h0 : 0 ≤ salt) (h1 : salt ≤ 18446744073709551615) (A : Option Addr) (c : Nat) (l : List Int) (w : World) (hr : Rb w A l) (hc : l.length ≤ c) (hu : U8 l) (hl : l.length ≤ 100000) :
    Calls Try.prog 23 #[.int .u64 salt, .slice A l.length c] w fun e w' => e = .returned (sumV (shaB (comB salt l))) ∧ Below w.heap.size w w' := by
  have HS := Aside0.mk (And.intro h0 h1)
  have HR := Aside0.mk hr
  have HC := Aside0.mk hc
  have HU := Aside0.mk hu
  have HL := Aside0.mk hl
  have HZ := Aside0.mk (show (w.alloc (.cells Z32 24)).heap[w.heap.size]? = some (.cells Z32 24 (0, 0)) from blk_new _ _)
  have HB := Aside0.mk (below_alloc (Below.refl w.heap.size w) (.cells Z32 24))
  clear hr hu hl hc h0 h1
  go_enter Try.func23, Try.ntmps23
  go_wp2_with (fail)
  refine (rtxt_c salt HS.out.1 HS.out.2 A c l _ (Kd.C_below HR.out HB.out) HC.out (by have := HL.out; omega)).mono ?_
  rintro e w1 ⟨v, rfl, ho, hb⟩
  have HZ1 := Aside0.mk (blk_below HZ.out hb)
  have HB1 := Aside0.mk (below_step HB.out hb)
  clear hb HZ HB
  obtain ⟨An, cn, rfl, hl_, hr_⟩ := Ob.reads ho; have HRn := Aside0.mk hr_; have HLn := Aside0.mk hl_; clear ho hl_ hr_
  obtain ⟨D, hD⟩ : ∃ D, (nums .u8 (shaB (comB salt l))).toArray = D := ⟨_, rfl⟩
  have HD := Aside0.mk hD
  have hds : D.size = 32 := by rw [← hD]; simp [nums, shaB_len]
  have HIF := Aside0.mk (show (Try.prog.info? 24).map (·.size) = some D.size by rw [hds]; exact info_32)
  have HSZ := Aside0.mk (show Z32.size = D.size by rw [hds]; simp [Z32, nums])
  have HONE := Aside0.mk (show D.all (·.oneCell') = true by rw [← hD]; exact nums_one _ _)
  clear hD hds
  go_wp2_with (fail)
  refine (rof_c An cn (comB salt l) w1 HRn.out HLn.out (comB_u8 HS.out.2 HU.out (by have := HL.out; omega)) (by have := comB_len (b := l) HS.out.2 (by have := HL.out; omega); have := HL.out; omega)).mono ?_
  rintro e w6 ⟨rfl, hb6⟩
  rw [show sumV (shaB (comB salt l)) = .agg D by rw [← HD.out]]
  have HZ6 := Aside0.mk (blk_below HZ1.out hb6)
  have HB6 := Aside0.mk (below_step HB1.out hb6)
  clear hb6
  go_wp2_with ((with_reducible refine gate_store (t := 24) (p := 4) (v := .tmp 8) rfl ?_); refine wpList_store_row rfl 24 (.tmp 4) (.tmp 8) rfl w.heap.size D rfl rfl 24 Z32 HZ6.out HIF.out HSZ.out HONE.out ?_)
  have HSR := setRow_heap w6 w.heap.size Z32 D _ _ HZ6.out
  refine bodyPost_ret (v := .agg D) (results_cell_row rfl _ _ w.heap.size 24 D (0, 0) _ rfl HSR Try.underlying24 rfl HIF.out) rfl ⟨by rw [← HD.out], below_setRow HB6.out (Nat.le_refl _) D⟩
end Go.Proofs.Ytbebkogkeepfoaa.Com
/- commit: Check walked; the example of layer 7. -/
namespace Go.Proofs.Ytbebkogkeepfoaa.Com
set_option linter.unusedVariables false
set_option linter.unusedSimpArgs false
open Go.RowKit Go.Proofs.Ytbebkogkeepfoaa.Base Go.Proofs.Ytbebkogkeepfoaa.TlvPlain Go.Proofs.Ytbebkogkeepfoaa.ShaPlain Go.Proofs.Ytbebkogkeepfoaa.Sha Go.Proofs.Ytbebkogkeepfoaa.Lo Go.Proofs.Ytbebkogkeepfoaa.Aid Go.Proofs.YtbebkogkeepfoaaW.PrintWords Go.Proofs.YtbebkogkeepfoaaW.PrintLast Go.Proofs.YtbebkogkeepfoaaW.PrintMore
theorem size_32 {cs : List Value} (h : cs.length = 32) : (Try.prog.info? 24).map (·.size) = some cs.length := by rw [h]; exact info_32
set_option maxHeartbeats 4000000 in
set_option maxRecDepth 100000 in
theorem chk_c (com : List Int) (hcom : com.length = 32) (salt : Int) (h0 : 0 ≤ salt) (h1 : salt ≤ 18446744073709551615) (A : Option Addr) (c : Nat) (l : List Int) (w : World) (hr : Rb w A l) (hc : l.length ≤ c) (hu : U8 l) (hl : l.length ≤ 100000) :
    Calls Try.prog 24 #[.agg (nums .u8 com).toArray, .int .u64 salt, .slice A l.length c] w fun e w' => e = .returned (.bool (decide (shaB (comB salt l) = com))) ∧ Below w.heap.size w w' := by
  have HR := Aside0.mk hr
  have HOF := Aside0.mk (fun W (hW : Rb W A l) => cof_c salt h0 h1 A c l W hW hc hu hl)
  have HEQ := Aside0.mk (run_eq_sum (shaB (comB salt l)) com (shaB_len _) hcom)
  obtain ⟨bb, hbb⟩ : ∃ bb, decide (shaB (comB salt l) = com) = bb := ⟨_, rfl⟩
  obtain ⟨cs, hcs⟩ : ∃ cs, nums .u8 (shaB (comB salt l)) = cs := ⟨_, rfl⟩
  obtain ⟨cc, hcc⟩ : ∃ cc, nums .u8 com = cc := ⟨_, rfl⟩
  have HIC := Aside0.mk (size_32 (cs := cc) (by rw [← hcc]; simp [nums, hcom]))
  simp only [sumV] at HOF HEQ
  rw [hcs] at HOF
  rw [hcs, hcc, hbb] at HEQ
  rw [hcc, hbb]
  clear hr hc hu hl h0 h1 hcom hcs hcc hbb
  go_enter Try.func24, Try.ntmps24
  go_wp2_with (fail)
  have HG := Aside0.mk (show (w.alloc (.cells cc.toArray 24)).heap[w.heap.size]? = some (.cells cc.toArray 24 (0, 0)) from blk_new _ _)
  have HB := Aside0.mk (below_alloc (Below.refl w.heap.size w) (.cells cc.toArray 24))
  obtain ⟨W, hW⟩ : ∃ W, w.alloc (.cells cc.toArray 24) = W := ⟨_, rfl⟩
  obtain ⟨g, hg⟩ : ∃ g, w.heap.size = g := ⟨_, rfl⟩
  rw [hW] at HG HB ⊢
  rw [hg] at HG ⊢
  clear hW hg
  have hguard := guard_32
  have heq := HEQ.out
  have hu24 := Try.underlying24
  refine wp_region_held_drew (S := fun w' => w'.rangeAt g 0 cc) (by kernel_rfl) (range_blk HG.out) (fun hHeld => ?_)
  (refine wpAnyH_take (i := 0) (v := ?_) rfl (by kernel_rfl) (by kernel_rfl) (by kernel_rfl) (fun _ _ _ h => h) (Or.inl ⟨by rfl, ?_⟩) (by assumption) ?_; (case' refine_2 => (intro w hSw; go_simp; try with_reducible rfl)); (try simp only [Act.put, List.getElem_toArray, List.getElem_cons_zero, List.getElem_cons_succ, List.setIfInBounds_toArray, List.set_cons_zero, List.set_cons_succ]))
  (refine wpAnyH_take (i := 1) (v := ?_) rfl (by kernel_rfl) (by kernel_rfl) (by kernel_rfl) (fun _ _ _ h => h) (Or.inl ⟨by rfl, ?_⟩) (by assumption) ?_; (case' refine_2 => (intro w hSw; go_simp; try with_reducible rfl)); (try simp only [Act.put, List.getElem_toArray, List.getElem_cons_zero, List.getElem_cons_succ, List.setIfInBounds_toArray, List.set_cons_zero, List.set_cons_succ]))
  (refine wpAnyH_take (i := 3) rfl (by kernel_rfl) (by kernel_rfl) (by kernel_rfl) (fun _ _ _ h => h) (yieldsIf_load_mid (by rfl) _ _ rfl _ _ rfl _ _ (fun _ h => h) (by assumption) rfl HIC.out) (by assumption) ?_; (try simp only [Act.put, List.getElem_toArray, List.getElem_cons_zero, List.getElem_cons_succ, List.setIfInBounds_toArray, List.set_cons_zero, List.set_cons_succ]))
  (refine wpAnyH_ready (rs := [2]) (by kernel_rfl) (by simp) (AllReadyH.cons rfl (fun K hK => ?_) AllReadyH.nil); go_simp)
  refine (HOF.out _ (Kd.C_below HR.out (below_drew1 HB.out))).mono ?_
  rintro e w3 ⟨rfl, hb⟩
  have HG3 := Aside0.mk (blk_below HG.out (below_drew_of hb))
  have HB3 := Aside0.mk (below_step HB.out (below_drew_of hb))
  clear hb
  (refine Shut.out hK _ _ (range_blk HG3.out) (fun hHeld => ?_); clear hK K; (try simp only [Act.put, List.getElem_toArray, List.getElem_cons_zero, List.getElem_cons_succ, List.setIfInBounds_toArray, List.set_cons_zero, List.set_cons_succ]))
  (refine wpAnyH_take (i := 4) (v := ?_) rfl (by kernel_rfl) (by kernel_rfl) (by kernel_rfl) (fun _ _ _ h => h) (Or.inl ⟨by rfl, ?_⟩) (by assumption) ?_; (case' refine_2 => (intro w hSw; go_simp; try with_reducible rfl)); (try simp only [Act.put, List.getElem_toArray, List.getElem_cons_zero, List.getElem_cons_succ, List.setIfInBounds_toArray, List.set_cons_zero, List.set_cons_succ]))
  (refine wpAnyH_take (i := 5) (v := ?_) rfl (by kernel_rfl) (by kernel_rfl) (by kernel_rfl) (fun _ _ _ h => h) (Or.inl ⟨by rfl, ?_⟩) (by assumption) ?_; (case' refine_2 => (intro w hSw; go_simp; try with_reducible rfl)); (try simp only [Act.put, List.getElem_toArray, List.getElem_cons_zero, List.getElem_cons_succ, List.setIfInBounds_toArray, List.set_cons_zero, List.set_cons_succ]))
  refine wpAnyH_done (by kernel_rfl) ?_ _
  go_wp2_with (fail)
  go_ret
  exact ⟨rfl, HB3.out⟩
theorem chk_own (salt : Int) (h0 : 0 ≤ salt) (h1 : salt ≤ 18446744073709551615) (A : Option Addr) (c : Nat) (l : List Int) (w : World) (hr : Rb w A l) (hc : l.length ≤ c) (hu : U8 l) (hl : l.length ≤ 100000) :
    Calls Try.prog 24 #[sumV (shaB (comB salt l)), .int .u64 salt, .slice A l.length c] w fun e w' => e = .returned (.bool true) ∧ Below w.heap.size w w' := by
  have h := chk_c (shaB (comB salt l)) (shaB_len _) salt h0 h1 A c l w hr hc hu hl
  rw [decide_eq_true rfl] at h
  exact h
theorem comB_nil : comB 0 [] = [1, 0, 0] := by
  have e : be 0 = [] := be_zero
  simp [comB, numB, textB, e]
set_option maxHeartbeats 4000000 in
set_option maxRecDepth 100000 in
theorem live7_c (w : World) : Calls Try.prog 21 #[] w fun e w' => e = .returned (.bool true) ∧ Below w.heap.size w w' := by
  have hguard := guard_32
  have HE := Aside0.mk (run_eq_sum (shaB [1, 0, 0]) (shaB [1, 0, 0]) (shaB_len _) (shaB_len _))
  have HOF := Aside0.mk (fun W => cof_c 0 (by decide) (by decide) none 0 [] W (Kd.C_nil _ W) (by simp) (fun x hx => by simp at hx) (by simp))
  have HCK := Aside0.mk (fun W => chk_own 0 (by decide) (by decide) none 0 [] W (Kd.C_nil _ W) (by simp) (fun x hx => by simp at hx) (by simp))
  rw [comB_nil] at HOF HCK
  obtain ⟨cs, hD⟩ : ∃ cs, nums .u8 (shaB [1, 0, 0]) = cs := ⟨_, rfl⟩
  have HD := Aside0.mk hD
  have heq := HE.out
  simp only [sumV] at HOF HCK
  simp only [sumV, decide_true] at heq
  rw [hD] at heq
  rw [hD] at HOF HCK
  have HB := Aside0.mk (Below.refl w.heap.size w)
  clear HE hD
  go_enter Try.func21, Try.ntmps21
  go_wp2_with (fail)
  refine (HOF.out _).mono ?_
  rintro e w1 ⟨rfl, hb⟩
  have n1_ := Aside0.mk (below_step HB.out hb); clear HB; have HB := n1_; clear n1_
  clear hb
  go_wp2_with ((with_reducible refine gate_dst (N := 2) rfl ?_); (try (refine gate_guard (by rfl) ?_; dsimp only)); refine lit_bytes (N := 2) ?hg ?hd [1, 0, 0] [.int .u8 (1), .int .u8 (0), .int .u8 (0)] rfl ?hr (by simp) ?_; (case hd => rfl); (case hg => rfl); (case hr => first | (go_simp; done) | (go_simp; rfl)); intro v w1 ho hb; have n2_ := Aside0.mk (below_step HB.out hb); clear HB; have HB := n2_; clear n2_ hb; obtain ⟨Aq, cq, rfl, hl_, hr_⟩ := Ob.reads ho; have HRq := Aside0.mk hr_; have HLq := Aside0.mk hl_; clear ho hl_ hr_)
  have HRO := Aside0.mk (fun (A : Option Addr) (c : Nat) (W : World) (hr : Rb W A [1, 0, 0]) (hc : [(1 : Int), 0, 0].length ≤ c) => rof_c A c [1, 0, 0] W hr hc (by simp) (by simp))
  simp only [sumV] at HRO
  rw [HD.out] at HRO
  refine (HRO.out Aq cq w1 HRq.out HLq.out).mono ?_
  rintro e w3 ⟨rfl, hb⟩
  have n1_ := Aside0.mk (below_step HB.out hb); clear HB; have HB := n1_; clear n1_
  clear hb
  go_wp2_with ((with_reducible refine gate_dst (N := 6) rfl ?_); (try (refine gate_guard (by rfl) ?_; dsimp only)); refine lit_bytes (N := 6) ?hg ?hd [1, 0, 0] [.int .u8 (1), .int .u8 (0), .int .u8 (0)] rfl ?hr (by simp) ?_; (case hd => rfl); (case hg => rfl); (case hr => first | (go_simp; done) | (go_simp; rfl)); intro v w1 ho hb; have n2_ := Aside0.mk (below_step HB.out hb); clear HB; have HB := n2_; clear n2_ hb; obtain ⟨Ar, cr, rfl, hl_, hr_⟩ := Ob.reads ho; have HRr := Aside0.mk hr_; have HLr := Aside0.mk hl_; clear ho hl_ hr_)
  refine (HRO.out Ar cr _ HRr.out HLr.out).mono ?_
  rintro e w5 ⟨rfl, hb⟩
  have n1_ := Aside0.mk (below_step HB.out hb); clear HB; have HB := n1_; clear n1_
  clear hb
  go_wp2_with (fail)
  refine (HCK.out _).mono ?_
  rintro e w6 ⟨rfl, hb⟩
  have n1_ := Aside0.mk (below_step HB.out hb); clear HB; have HB := n1_; clear n1_
  clear hb
  go_wp2_with (fail)
  go_ret
  exact ⟨rfl, HB.out⟩
end Go.Proofs.Ytbebkogkeepfoaa.Com
/- What an array argument reads as. -/
namespace Go.Proofs.Ytbebkogkeepfoaa.Open
open Go.Proofs.Ytbebkogkeepfoaa.Base Go.RowKit Go.Proofs.YtbebkogkeepfoaaW.PrintWords Go.Proofs.YtbebkogkeepfoaaW.PrintLast Go.Proofs.YtbebkogkeepfoaaW.PrintMore
theorem opensN_array {P : Program} {n N : Nat} {t e : TypeId} {α : Type} {d : Kd α} {ok : α → Prop} (hs : 0 < d.sz) (ht : P.underlying t = some (.array N e)) (hc : P.cellsOf t = N * d.sz) (he : P.cellsOf e = d.sz) (hd : OpensN P n e d ok) : OpensN P (n + 1) t (Kd.arr N d hs) (fun xs => ∀ x ∈ xs, ok x) := by
  intro H enc w base held cs x h
  unfold DataW.trod at h
  rw [ht] at h
  have h' : (if cs.length = P.cellsOf t then ((List.range N).mapM fun i => DataW.trod enc P w base (fun _ => true) held n e ((cs.drop (i * P.cellsOf e)).take (P.cellsOf e))).map fun xs => (DataW.agg (xs.map (·.1)), xs.flatMap (·.2)) else none) = some x := by
    revert h
    split <;> simp_all
  split at h'
  · next hl =>
    obtain ⟨ys, h1, _⟩ := Option.map_eq_some_iff.1 h'
    obtain ⟨xs, hxl, hxs⟩ := choose_list (α := α) (p := fun i v => d.K w v ((cs.drop (i * d.sz)).take d.sz) ∧ ok v) N (fun i hi => by
      have h2 := mapM_some_get h1 i i (by simp [hi])
      have hlen : ys.length = N := by have := mapM_some_length h1; simpa using this
      rw [List.getElem?_eq_getElem (show i < ys.length by omega), he] at h2
      exact hd _ _ _ _ _ _ _ h2)
    refine ⟨xs, ⟨hxl, by rw [hl, hc, hxl], fun j p hj => (hxs j p hj).1⟩, fun y hy => ?_⟩
    obtain ⟨i, hi, rfl⟩ := List.mem_iff_getElem.1 hy
    exact (hxs i _ (List.getElem?_eq_getElem hi)).2
  · cases h'
theorem opens_array {P : Program} {N : Nat} {t e : TypeId} {α : Type} {d : Kd α} {ok : α → Prop} (hs : 0 < d.sz) (ht : P.underlying t = some (.array N e)) (hc : P.cellsOf t = N * d.sz) (he : P.cellsOf e = d.sz) (hd : Opens P e d ok) : Opens P t (Kd.arr N d hs) (fun xs => ∀ x ∈ xs, ok x) := by
  intro n
  cases n with
  | zero => intro H enc w base held cs x h; simp [DataW.trod] at h
  | succ n => exact opensN_array hs ht hc he (hd n)
theorem okWide_array {P : Program} {w : World} {r : Reach} {base N : Nat} {t e : TypeId} {v : Value} (ht : P.underlying t = some (.array N e)) (h : Value.okWide P w r base t v) : ∃ cs, v = .agg cs ∧ cs.size = P.cellsOf t := by
  revert h
  unfold Value.okWide
  rw [ht]
  cases v <;> simp_all
/-- The cells of an array of numbers. -/
theorem nums_arr {w : World} {k : IntKind} {N : Nat} {hs : 0 < (Kd.int k).sz} {xs : List Int} {cs : List Value} (h : (Kd.arr N (Kd.int k) hs).K w xs cs) : cs = nums k xs := by
  apply List.ext_getElem?
  intro i
  have hl : cs.length = xs.length := by rw [h.2.1]; show _ * 1 = _; omega
  cases hx : xs[i]? with
  | none =>
    rw [List.getElem?_eq_none_iff] at hx
    rw [List.getElem?_eq_none_iff.2 (by omega), nums, List.getElem?_map, List.getElem?_eq_none_iff.2 hx]
    rfl
  | some y =>
    have hi := (List.getElem?_eq_some_iff.1 hx).1
    have h2 := h.2.2 i y hx
    rw [nums, List.getElem?_map, hx]
    have h3 : (cs.drop (i * (Kd.int k).sz)).take (Kd.int k).sz = [.int k y] := h2
    have h4 : ((cs.drop (i * (Kd.int k).sz)).take (Kd.int k).sz)[0]? = cs[i]? := by
      rw [List.getElem?_take, if_pos hs, List.getElem?_drop, show i * (Kd.int k).sz + 0 = i by show i * 1 + 0 = i; omega]
    rw [← h4, h3]
    rfl
end Go.Proofs.Ytbebkogkeepfoaa.Open
/- CommitOf: the law's walk. -/
namespace Go.Proofs.Ytbebkogkeepfoaa.Com
set_option linter.unusedVariables false
set_option linter.unusedSimpArgs false
open Go.RowKit Go.Proofs.Ytbebkogkeepfoaa.Base Go.Proofs.Ytbebkogkeepfoaa.TlvPlain Go.Proofs.Ytbebkogkeepfoaa.ShaPlain Go.Proofs.Ytbebkogkeepfoaa.Sha Go.Proofs.Ytbebkogkeepfoaa.Lo Go.Proofs.Ytbebkogkeepfoaa.Aid Go.Proofs.YtbebkogkeepfoaaW.PrintWords Go.Proofs.YtbebkogkeepfoaaW.PrintLast Go.Proofs.YtbebkogkeepfoaaW.PrintMore
set_option maxHeartbeats 8000000 in
set_option maxRecDepth 100000 in
theorem comOf_walk (w : World) (salt : Int) (h0 : 0 ≤ salt) (h1 : salt ≤ 18446744073709551615) (A : Option Addr) (c : Nat) (l : List Int) (hr : Rb w A l) (hc : l.length ≤ c) (hu : U8 l) (com : List Int) (hcom : com.length = 32) :
    Calls Try.prog 6 #[.int .u64 salt, .slice A l.length c, .agg (nums .u8 com).toArray] w fun e w' => e = .returned (.bool true) ∧ Below w.heap.size w w' := by
  by_cases hl : 2000 < l.length
  · have hd : decide ((2000 : Int) < (l.length : Int)) = true := decide_eq_true (by omega)
    obtain ⟨cc, hcc⟩ : ∃ cc, nums .u8 com = cc := ⟨_, rfl⟩
    rw [hcc]
    clear hr hc hu h0 h1 hcom hcc hl
    have HB := Aside0.mk (below_alloc (Below.refl w.heap.size w) (.cells cc.toArray 24))
    go_enter Try.func6, Try.ntmps6
    go_wp2_with (fail)
    refine (live7_c _).mono ?_
    rintro e w' ⟨rfl, hb⟩
    have n1_ := Aside0.mk (below_step HB.out hb); clear HB; have HB := n1_; clear n1_
    clear hb
    go_wp2_with (fail)
    go_ret
    exact ⟨rfl, HB.out⟩
  · have hd : decide ((2000 : Int) < (l.length : Int)) = false := decide_eq_false (by omega)
    have hl' : l.length ≤ 100000 := by omega
    have HR := Aside0.mk hr
    obtain ⟨cs, hcs⟩ : ∃ cs, nums .u8 (shaB (comB salt l)) = cs := ⟨_, rfl⟩
    obtain ⟨cc, hcc⟩ : ∃ cc, nums .u8 com = cc := ⟨_, rfl⟩
    obtain ⟨bb, hbb⟩ : ∃ bb, decide (shaB (comB salt l) = com) = bb := ⟨_, rfl⟩
    have hbb2 : decide (com = shaB (comB salt l)) = bb := by rw [← hbb]; exact decide_eq_decide.2 ⟨Eq.symm, Eq.symm⟩
    have hlen : cs.length = 32 := by rw [← hcs]; simp [nums, shaB_len]
    have HIS := Aside0.mk (size_32 hlen)
    have HIC := Aside0.mk (size_32 (cs := cc) (by rw [← hcc]; simp [nums, hcom]))
    have HIA := Aside0.mk (show (Try.prog.info? 24).map (·.size) = some cs.toArray.size by simp only [List.size_toArray]; exact HIS.out)
    have HSZ := Aside0.mk (show Z32.size = cs.toArray.size by simp [Z32, nums, hlen])
    have HONE := Aside0.mk (show cs.toArray.all (·.oneCell') = true by rw [← hcs]; exact nums_one _ _)
    have HOF := Aside0.mk (fun W (hW : Rb W A l) => cof_c salt h0 h1 A c l W hW hc hu hl')
    have HROF := Aside0.mk (fun W (hW : Rb W A l) => rcof_c salt h0 h1 A c l W hW hc hu hl')
    have HCO := Aside0.mk (fun W (hW : Rb W A l) => chk_own salt h0 h1 A c l W hW hc hu hl')
    have HCK := Aside0.mk (fun W (hW : Rb W A l) => chk_c com hcom salt h0 h1 A c l W hW hc hu hl')
    have HE1 := Aside0.mk (run_eq_sum (shaB (comB salt l)) (shaB (comB salt l)) (shaB_len _) (shaB_len _))
    have HE2 := Aside0.mk (run_eq_sum com (shaB (comB salt l)) hcom (shaB_len _))
    simp only [sumV, decide_true] at HOF HROF HCO HCK HE1 HE2
    rw [hcs] at HOF HROF HCO HE1 HE2
    rw [hcc] at HCK HE2
    rw [hbb] at HCK
    rw [hbb2] at HE2
    rw [hcc]
    clear hr hc hu hl hl' h0 h1 hcom hcs hcc hbb hbb2 hlen
    go_enter Try.func6, Try.ntmps6
    have HG0 := Aside0.mk (show (w.alloc (.cells cc.toArray 24)).heap[w.heap.size]? = some (.cells cc.toArray 24 (0, 0)) from blk_new _ _)
    have HB0 := Aside0.mk (below_alloc (Below.refl w.heap.size w) (.cells cc.toArray 24))
    go_wp2_with (fail)
    refine (HOF.out _ (Kd.C_below HR.out HB0.out)).mono ?_
    rintro e w1 ⟨rfl, hb⟩
    have HG1 := Aside0.mk (blk_below HG0.out hb)
    have HB1 := Aside0.mk (below_step HB0.out hb)
    clear hb
    go_wp2_with ((with_reducible refine gate_store (t := 24) (p := 7) (v := .tmp 14) rfl ?_); refine wpList_store_row rfl 24 (.tmp 7) (.tmp 14) rfl w1.heap.size cs.toArray rfl rfl 24 Z32 (by exact blk_new _ _) HIA.out HSZ.out HONE.out ?_; rw [World.setRow_alloc_new])
    obtain ⟨g, hg⟩ : ∃ g, w1.heap.size = g := ⟨_, rfl⟩
    obtain ⟨q, hq⟩ : ∃ q, w.heap.size = q := ⟨_, rfl⟩
    obtain ⟨W, hW⟩ : ∃ W, w1.alloc (.cells cs.toArray 24) = W := ⟨_, rfl⟩
    have HGS := Aside0.mk (show W.heap[g]? = some (.cells cs.toArray 24 (0, 0)) by rw [← hW, ← hg]; exact blk_new _ _)
    have HGC := Aside0.mk (show W.heap[q]? = some (.cells cc.toArray 24 (0, 0)) by rw [← hW, ← hq]; exact blk_alloc HG1.out _)
    have HB2 := Aside0.mk (show Below w.heap.size w W by rw [← hW]; exact below_alloc HB1.out _)
    rw [hW, hg, hq]
    clear hW hg hq HB1 HB0 HG0 HG1 HSZ HIA HONE
    have hguard := guard_32
    have heq1 := HE1.out
    have heq2 := HE2.out
    have hu24 := Try.underlying24
    go_wp2_with (fail)
    refine wp_region_held_drew (S := fun w' => w'.rangeAt g 0 cs ∧ w'.rangeAt q 0 cc) (by kernel_rfl) (And.intro (range_blk HGS.out) (range_blk HGC.out)) (fun hHeld => ?_)
    (refine wpAnyH_take (i := 0) rfl (by kernel_rfl) (by kernel_rfl) (by kernel_rfl) (fun _ _ _ h => h) (yieldsIf_load_mid (by rfl) _ _ rfl _ _ rfl _ _ (fun _ h => h.1) (by assumption) rfl HIS.out) (by assumption) ?_; (try simp only [Act.put, List.getElem_toArray, List.getElem_cons_zero, List.getElem_cons_succ, List.setIfInBounds_toArray, List.set_cons_zero, List.set_cons_succ]))
    (refine wpAnyH_take (i := 1) (v := ?_) rfl (by kernel_rfl) (by kernel_rfl) (by kernel_rfl) (fun _ _ _ h => h) (Or.inl ⟨by rfl, ?_⟩) (by assumption) ?_; (case' refine_2 => (intro w hSw; go_simp; try with_reducible rfl)); (try simp only [Act.put, List.getElem_toArray, List.getElem_cons_zero, List.getElem_cons_succ, List.setIfInBounds_toArray, List.set_cons_zero, List.set_cons_succ]))
    (refine wpAnyH_take (i := 2) (v := ?_) rfl (by kernel_rfl) (by kernel_rfl) (by kernel_rfl) (fun _ _ _ h => h) (Or.inl ⟨by rfl, ?_⟩) (by assumption) ?_; (case' refine_2 => (intro w hSw; go_simp; try with_reducible rfl)); (try simp only [Act.put, List.getElem_toArray, List.getElem_cons_zero, List.getElem_cons_succ, List.setIfInBounds_toArray, List.set_cons_zero, List.set_cons_succ]))
    (refine wpAnyH_ready (rs := [3]) (by kernel_rfl) (by simp) (AllReadyH.cons rfl (fun K hK => ?_) AllReadyH.nil); go_simp)
    refine (HROF.out _ (Kd.C_below HR.out (below_drew1 HB2.out))).mono ?_
    rintro e w3 ⟨rfl, hb⟩
    have HGS3 := Aside0.mk (blk_below HGS.out (below_drew_of hb))
    have HGC3 := Aside0.mk (blk_below HGC.out (below_drew_of hb))
    have HB3 := Aside0.mk (below_step HB2.out (below_drew_of hb))
    clear hb
    (refine Shut.out hK _ _ (And.intro (range_blk HGS3.out) (range_blk HGC3.out)) (fun hHeld => ?_); clear hK K; (try simp only [Act.put, List.getElem_toArray, List.getElem_cons_zero, List.getElem_cons_succ, List.setIfInBounds_toArray, List.set_cons_zero, List.set_cons_succ]))
    (refine wpAnyH_take (i := 4) (v := ?_) rfl (by kernel_rfl) (by kernel_rfl) (by kernel_rfl) (fun _ _ _ h => h) (Or.inl ⟨by rfl, ?_⟩) (by assumption) ?_; (case' refine_2 => (intro w hSw; go_simp; try with_reducible rfl)); (try simp only [Act.put, List.getElem_toArray, List.getElem_cons_zero, List.getElem_cons_succ, List.setIfInBounds_toArray, List.set_cons_zero, List.set_cons_succ]))
    (refine wpAnyH_take (i := 5) (v := ?_) rfl (by kernel_rfl) (by kernel_rfl) (by kernel_rfl) (fun _ _ _ h => h) (Or.inl ⟨by rfl, ?_⟩) (by assumption) ?_; (case' refine_2 => (intro w hSw; go_simp; try with_reducible rfl)); (try simp only [Act.put, List.getElem_toArray, List.getElem_cons_zero, List.getElem_cons_succ, List.setIfInBounds_toArray, List.set_cons_zero, List.set_cons_succ]))
    (refine wpAnyH_take (i := 6) rfl (by kernel_rfl) (by kernel_rfl) (by kernel_rfl) (fun _ _ _ h => h) (yieldsIf_load_mid (by rfl) _ _ rfl _ _ rfl _ _ (fun _ h => h.1) (by assumption) rfl HIS.out) (by assumption) ?_; (try simp only [Act.put, List.getElem_toArray, List.getElem_cons_zero, List.getElem_cons_succ, List.setIfInBounds_toArray, List.set_cons_zero, List.set_cons_succ]))
    (refine wpAnyH_take (i := 7) (v := ?_) rfl (by kernel_rfl) (by kernel_rfl) (by kernel_rfl) (fun _ _ _ h => h) (Or.inl ⟨by rfl, ?_⟩) (by assumption) ?_; (case' refine_2 => (intro w hSw; go_simp; try with_reducible rfl)); (try simp only [Act.put, List.getElem_toArray, List.getElem_cons_zero, List.getElem_cons_succ, List.setIfInBounds_toArray, List.set_cons_zero, List.set_cons_succ]))
    (refine wpAnyH_take (i := 8) (v := ?_) rfl (by kernel_rfl) (by kernel_rfl) (by kernel_rfl) (fun _ _ _ h => h) (Or.inl ⟨by rfl, ?_⟩) (by assumption) ?_; (case' refine_2 => (intro w hSw; go_simp; try with_reducible rfl)); (try simp only [Act.put, List.getElem_toArray, List.getElem_cons_zero, List.getElem_cons_succ, List.setIfInBounds_toArray, List.set_cons_zero, List.set_cons_succ]))
    (refine wpAnyH_ready (rs := [9]) (by kernel_rfl) (by simp) (AllReadyH.cons rfl (fun K hK => ?_) AllReadyH.nil); go_simp)
    refine (HCO.out _ (Kd.C_below HR.out HB3.out)).mono ?_
    rintro e w4 ⟨rfl, hb⟩
    have HGS4 := Aside0.mk (blk_below HGS3.out hb)
    have HGC4 := Aside0.mk (blk_below HGC3.out hb)
    have HB4 := Aside0.mk (below_step HB3.out hb)
    clear hb
    (refine Shut.out hK _ _ (And.intro (range_blk HGS4.out) (range_blk HGC4.out)) (fun hHeld => ?_); clear hK K; (try simp only [Act.put, List.getElem_toArray, List.getElem_cons_zero, List.getElem_cons_succ, List.setIfInBounds_toArray, List.set_cons_zero, List.set_cons_succ]))
    (refine wpAnyH_take (i := 10) (v := ?_) rfl (by kernel_rfl) (by kernel_rfl) (by kernel_rfl) (fun _ _ _ h => h) (Or.inl ⟨by rfl, ?_⟩) (by assumption) ?_; (case' refine_2 => (intro w hSw; go_simp; try with_reducible rfl)); (try simp only [Act.put, List.getElem_toArray, List.getElem_cons_zero, List.getElem_cons_succ, List.setIfInBounds_toArray, List.set_cons_zero, List.set_cons_succ]))
    (refine wpAnyH_take (i := 11) (v := ?_) rfl (by kernel_rfl) (by kernel_rfl) (by kernel_rfl) (fun _ _ _ h => h) (Or.inl ⟨by rfl, ?_⟩) (by assumption) ?_; (case' refine_2 => (intro w hSw; go_simp; try with_reducible rfl)); (try simp only [Act.put, List.getElem_toArray, List.getElem_cons_zero, List.getElem_cons_succ, List.setIfInBounds_toArray, List.set_cons_zero, List.set_cons_succ]))
    (refine wpAnyH_take (i := 12) rfl (by kernel_rfl) (by kernel_rfl) (by kernel_rfl) (fun _ _ _ h => h) (yieldsIf_load_mid (by rfl) _ _ rfl _ _ rfl _ _ (fun _ h => h.2) (by assumption) rfl HIC.out) (by assumption) ?_; (try simp only [Act.put, List.getElem_toArray, List.getElem_cons_zero, List.getElem_cons_succ, List.setIfInBounds_toArray, List.set_cons_zero, List.set_cons_succ]))
    (refine wpAnyH_take (i := 13) (v := ?_) rfl (by kernel_rfl) (by kernel_rfl) (by kernel_rfl) (fun _ _ _ h => h) (Or.inl ⟨by rfl, ?_⟩) (by assumption) ?_; (case' refine_2 => (intro w hSw; go_simp; try with_reducible rfl)); (try simp only [Act.put, List.getElem_toArray, List.getElem_cons_zero, List.getElem_cons_succ, List.setIfInBounds_toArray, List.set_cons_zero, List.set_cons_succ]))
    (refine wpAnyH_take (i := 14) (v := ?_) rfl (by kernel_rfl) (by kernel_rfl) (by kernel_rfl) (fun _ _ _ h => h) (Or.inl ⟨by rfl, ?_⟩) (by assumption) ?_; (case' refine_2 => (intro w hSw; go_simp; try with_reducible rfl)); (try simp only [Act.put, List.getElem_toArray, List.getElem_cons_zero, List.getElem_cons_succ, List.setIfInBounds_toArray, List.set_cons_zero, List.set_cons_succ]))
    (refine wpAnyH_take (i := 16) rfl (by kernel_rfl) (by kernel_rfl) (by kernel_rfl) (fun _ _ _ h => h) (yieldsIf_load_mid (by rfl) _ _ rfl _ _ rfl _ _ (fun _ h => h.2) (by assumption) rfl HIC.out) (by assumption) ?_; (try simp only [Act.put, List.getElem_toArray, List.getElem_cons_zero, List.getElem_cons_succ, List.setIfInBounds_toArray, List.set_cons_zero, List.set_cons_succ]))
    (refine wpAnyH_take (i := 17) rfl (by kernel_rfl) (by kernel_rfl) (by kernel_rfl) (fun _ _ _ h => h) (yieldsIf_load_mid (by rfl) _ _ rfl _ _ rfl _ _ (fun _ h => h.1) (by assumption) rfl HIS.out) (by assumption) ?_; (try simp only [Act.put, List.getElem_toArray, List.getElem_cons_zero, List.getElem_cons_succ, List.setIfInBounds_toArray, List.set_cons_zero, List.set_cons_succ]))
    (refine wpAnyH_take (i := 18) (v := ?_) rfl (by kernel_rfl) (by kernel_rfl) (by kernel_rfl) (fun _ _ _ h => h) (Or.inl ⟨by rfl, ?_⟩) (by assumption) ?_; (case' refine_2 => (intro w hSw; go_simp; try with_reducible rfl)); (try simp only [Act.put, List.getElem_toArray, List.getElem_cons_zero, List.getElem_cons_succ, List.setIfInBounds_toArray, List.set_cons_zero, List.set_cons_succ]))
    (refine wpAnyH_ready (rs := [15]) (by kernel_rfl) (by simp) (AllReadyH.cons rfl (fun K hK => ?_) AllReadyH.nil); go_simp)
    refine (HCK.out _ (Kd.C_below HR.out HB4.out)).mono ?_
    rintro e w5 ⟨rfl, hb⟩
    have HGS5 := Aside0.mk (blk_below HGS4.out hb)
    have HGC5 := Aside0.mk (blk_below HGC4.out hb)
    have HB5 := Aside0.mk (below_step HB4.out hb)
    clear hb
    (refine Shut.out hK _ _ (And.intro (range_blk HGS5.out) (range_blk HGC5.out)) (fun hHeld => ?_); clear hK K; (try simp only [Act.put, List.getElem_toArray, List.getElem_cons_zero, List.getElem_cons_succ, List.setIfInBounds_toArray, List.set_cons_zero, List.set_cons_succ]))
    (refine wpAnyH_take (i := 19) (v := ?_) rfl (by kernel_rfl) (by kernel_rfl) (by kernel_rfl) (fun _ _ _ h => h) (Or.inl ⟨by rfl, ?_⟩) (by assumption) ?_; (case' refine_2 => (intro w hSw; go_simp; try with_reducible rfl)); (try simp only [Act.put, List.getElem_toArray, List.getElem_cons_zero, List.getElem_cons_succ, List.setIfInBounds_toArray, List.set_cons_zero, List.set_cons_succ]))
    (refine wpAnyH_take (i := 20) (v := ?_) rfl (by kernel_rfl) (by kernel_rfl) (by kernel_rfl) (fun _ _ _ h => h) (Or.inl ⟨by rfl, ?_⟩) (by assumption) ?_; (case' refine_2 => (intro w hSw; go_simp; try with_reducible rfl)); (try simp only [Act.put, List.getElem_toArray, List.getElem_cons_zero, List.getElem_cons_succ, List.setIfInBounds_toArray, List.set_cons_zero, List.set_cons_succ]))
    (refine wpAnyH_take (i := 21) (v := ?_) rfl (by kernel_rfl) (by kernel_rfl) (by kernel_rfl) (fun _ _ _ h => h) (Or.inl ⟨by rfl, ?_⟩) (by assumption) ?_; (case' refine_2 => (intro w hSw; go_simp; try with_reducible rfl)); (try simp only [Act.put, List.getElem_toArray, List.getElem_cons_zero, List.getElem_cons_succ, List.setIfInBounds_toArray, List.set_cons_zero, List.set_cons_succ]))
    (refine wpAnyH_ready (rs := [22]) (by kernel_rfl) (by simp) (AllReadyH.cons rfl (fun K hK => ?_) AllReadyH.nil); go_simp)
    refine (live7_c _).mono ?_
    rintro e w6 ⟨rfl, hb⟩
    have HGS6 := Aside0.mk (blk_below HGS5.out hb)
    have HGC6 := Aside0.mk (blk_below HGC5.out hb)
    have HB6 := Aside0.mk (below_step HB5.out hb)
    clear hb
    (refine Shut.out hK _ _ (And.intro (range_blk HGS6.out) (range_blk HGC6.out)) (fun hHeld => ?_); clear hK K; (try simp only [Act.put, List.getElem_toArray, List.getElem_cons_zero, List.getElem_cons_succ, List.setIfInBounds_toArray, List.set_cons_zero, List.set_cons_succ]))
    (refine wpAnyH_take (i := 23) (v := ?_) rfl (by kernel_rfl) (by kernel_rfl) (by kernel_rfl) (fun _ _ _ h => h) (Or.inl ⟨by rfl, ?_⟩) (by assumption) ?_; (case' refine_2 => (intro w hSw; go_simp; try with_reducible rfl)); (try simp only [Act.put, List.getElem_toArray, List.getElem_cons_zero, List.getElem_cons_succ, List.setIfInBounds_toArray, List.set_cons_zero, List.set_cons_succ]))
    (refine wpAnyH_take (i := 24) (v := ?_) rfl (by kernel_rfl) (by kernel_rfl) (by kernel_rfl) (fun _ _ _ h => h) (Or.inl ⟨by rfl, ?_⟩) (by assumption) ?_; (case' refine_2 => (intro w hSw; go_simp; try with_reducible rfl)); (try simp only [Act.put, List.getElem_toArray, List.getElem_cons_zero, List.getElem_cons_succ, List.setIfInBounds_toArray, List.set_cons_zero, List.set_cons_succ]))
    refine wpAnyH_done (by kernel_rfl) ?_ _
    go_wp2_with (fail)
    go_ret
    exact ⟨rfl, HB6.out⟩
theorem u64_wf {n : Int} (h : (Lit.int .u64 n).wf = true) : 0 ≤ n ∧ n ≤ 18446744073709551615 := by
  simp only [Lit.wf, IntKind.min, IntKind.max, IntKind.signed, IntKind.bits, Bool.and_eq_true] at h
  simp at h
  omega
theorem arr_sum {w : World} {com : List Int} {cs : Array Value} (hk : (Kd.arr 32 (Kd.int .u8) (by decide)).K w com cs.toList) : cs = (nums .u8 com).toArray ∧ com.length = 32 := ⟨by rw [← Open.nums_arr hk], hk.1⟩
theorem comOfWalk (w : World) (salt : Int) (ws : (Lit.int .u64 salt).wf = true) (A : Option Addr) (c : Nat) (b : List Int) (hr : Kd.C (Kd.int .u8) w A b.length b) (hc : b.length ≤ c) (ok : ∀ x ∈ b, (Lit.int .u8 x).wf = true)
    (com : List Int) (cs : Array Value) (hk : (Kd.arr 32 (Kd.int .u8) (by decide)).K w com cs.toList) (_ : ∀ x ∈ com, (Lit.int .u8 x).wf = true) :
    Calls Try.prog 6 #[.int .u64 salt, .slice A b.length c, .agg cs] w fun e w' => e = .returned (.bool true) ∧ Below w.heap.size w w' := by
  obtain ⟨rfl, hl⟩ := arr_sum hk
  exact comOf_walk w salt (u64_wf ws).1 (u64_wf ws).2 A c b hr hc (fun x hx => byte_wf (ok x hx)) com hl
end Go.Proofs.Ytbebkogkeepfoaa.Com
/- commit: Link walked. -/
namespace Go.Proofs.Ytbebkogkeepfoaa.Com
set_option linter.unusedVariables false
set_option linter.unusedSimpArgs false
open Go.RowKit Go.Proofs.Ytbebkogkeepfoaa.Base Go.Proofs.Ytbebkogkeepfoaa.TlvPlain Go.Proofs.Ytbebkogkeepfoaa.ShaPlain Go.Proofs.Ytbebkogkeepfoaa.Sha Go.Proofs.Ytbebkogkeepfoaa.Lo Go.Proofs.Ytbebkogkeepfoaa.Aid Go.Proofs.YtbebkogkeepfoaaW.PrintWords Go.Proofs.YtbebkogkeepfoaaW.PrintLast Go.Proofs.YtbebkogkeepfoaaW.PrintMore
/-- What is summed for a link. -/
def linkB (seq : Int) (p c : List Int) : List Int := 2 :: (intB seq ++ (p ++ c))
theorem rb_blk {w : World} {g T : Nat} {xs : List Int} (h : w.heap[g]? = some (.cells (nums .u8 xs).toArray T (0, 0))) (hm : xs.length ≤ 9223372036854775807) : Rb w (some ⟨g, 0, none⟩) xs := by
  refine Kd.C_of_reads (d := (0 : Int)) ⟨rfl, hm, fun _ => ⟨_, rfl, fun j hj => ?_⟩⟩
  rw [add_plain, blk_cell h j]
  simp [nums, List.getElem?_eq_getElem hj, rd, List.getD_eq_getElem?_getD]
set_option maxHeartbeats 4000000 in
set_option maxRecDepth 100000 in
theorem link_c (seq : Int) (p q : List Int) (hp : p.length = 32) (hq : q.length = 32) (hpu : U8 p) (hqu : U8 q) (w : World) :
    Calls Try.prog 25 #[.int .i64 seq, .agg (nums .u8 p).toArray, .agg (nums .u8 q).toArray] w fun e w' => e = .returned (sumV (shaB (linkB seq p q))) ∧ Below w.heap.size w w' := by
  obtain ⟨P, hP⟩ : ∃ P, (nums .u8 p).toArray = P := ⟨_, rfl⟩
  obtain ⟨C, hC⟩ : ∃ C, (nums .u8 q).toArray = C := ⟨_, rfl⟩
  have HP := Aside0.mk hP
  have HC := Aside0.mk hC
  have HLP := Aside0.mk (And.intro hp hq)
  have HU := Aside0.mk (And.intro hpu hqu)
  rw [hP, hC]
  clear hP hC hp hq hpu hqu
  go_enter Try.func25, Try.ntmps25
  go_wp2_with (fail)
  have e1 : (w.alloc (.cells P 24)).heap.size = w.heap.size + 1 := by simp
  have e2 : ((w.alloc (.cells P 24)).alloc (.cells C 24)).heap.size = w.heap.size + 1 + 1 := by simp
  have HG := Aside0.mk (show (((w.alloc (.cells P 24)).alloc (.cells C 24)).alloc (.cells Z32 24)).heap[w.heap.size]? = some (.cells P 24 (0, 0)) from blk_alloc (blk_alloc (blk_new _ _) _) _)
  have HH := Aside0.mk (show (((w.alloc (.cells P 24)).alloc (.cells C 24)).alloc (.cells Z32 24)).heap[w.heap.size + 1]? = some (.cells C 24 (0, 0)) from blk_alloc (second_new' _ _ _) _)
  have HZ := Aside0.mk (show (((w.alloc (.cells P 24)).alloc (.cells C 24)).alloc (.cells Z32 24)).heap[w.heap.size + 1 + 1]? = some (.cells Z32 24 (0, 0)) from third_new _ _ _ _)
  have HB := Aside0.mk (show Below w.heap.size w (((w.alloc (.cells P 24)).alloc (.cells C 24)).alloc (.cells Z32 24)) from below_alloc (below_alloc (below_alloc (Below.refl _ _) _) _) _)
  obtain ⟨W, hW⟩ : ∃ W, ((w.alloc (.cells P 24)).alloc (.cells C 24)).alloc (.cells Z32 24) = W := ⟨_, rfl⟩
  rw [hW] at HG HH HZ HB
  rw [show ((w.alloc (.cells P 24)).alloc (.cells C 24)).alloc (.cells #[.int .u8 0, .int .u8 0, .int .u8 0, .int .u8 0, .int .u8 0, .int .u8 0, .int .u8 0, .int .u8 0, .int .u8 0, .int .u8 0, .int .u8 0, .int .u8 0, .int .u8 0, .int .u8 0, .int .u8 0, .int .u8 0, .int .u8 0, .int .u8 0, .int .u8 0, .int .u8 0, .int .u8 0, .int .u8 0, .int .u8 0, .int .u8 0, .int .u8 0, .int .u8 0, .int .u8 0, .int .u8 0, .int .u8 0, .int .u8 0, .int .u8 0, .int .u8 0] 24) = W from hW]
  clear hW e1 e2
  obtain ⟨g0, hg0⟩ : ∃ g, w.heap.size = g := ⟨_, rfl⟩
  have HG0 := Aside0.mk hg0
  rw [hg0] at HG HH HZ ⊢
  clear hg0
  refine wp_region_held_drew (S := fun _ => True) (by kernel_rfl) trivial (fun hHeld => ?_)
  (refine wpAnyH_take (i := 0) (v := ?_) rfl (by kernel_rfl) (by kernel_rfl) (by kernel_rfl) (fun _ _ _ h => h) (Or.inl ⟨by rfl, ?_⟩) (by assumption) ?_; (case' refine_2 => (intro w hSw; go_simp; try with_reducible rfl)); (try simp only [Act.put, List.getElem_toArray, List.getElem_cons_zero, List.getElem_cons_succ, List.setIfInBounds_toArray, List.set_cons_zero, List.set_cons_succ]))
  (refine wpAnyH_take (i := 2) (v := ?_) rfl (by kernel_rfl) (by kernel_rfl) (by kernel_rfl) (fun _ _ _ h => h) (Or.inl ⟨by rfl, ?_⟩) (by assumption) ?_; (case' refine_2 => (intro w hSw; go_simp; try with_reducible rfl)); (try simp only [Act.put, List.getElem_toArray, List.getElem_cons_zero, List.getElem_cons_succ, List.setIfInBounds_toArray, List.set_cons_zero, List.set_cons_succ]))
  (refine wpAnyH_take (i := 3) (v := ?_) rfl (by kernel_rfl) (by kernel_rfl) (by kernel_rfl) (fun _ _ _ h => h) (Or.inl ⟨by rfl, ?_⟩) (by assumption) ?_; (case' refine_2 => (intro w hSw; go_simp; try with_reducible rfl)); (try simp only [Act.put, List.getElem_toArray, List.getElem_cons_zero, List.getElem_cons_succ, List.setIfInBounds_toArray, List.set_cons_zero, List.set_cons_succ]))
  (refine wpAnyH_ready (rs := [1]) (by kernel_rfl) (by simp) (AllReadyH.cons rfl (fun K hK => ?_) AllReadyH.nil); go_simp)
  refine (int_c seq _).mono ?_
  rintro e w3 ⟨v, rfl, ho, hb⟩
  have hb' := below_drew_of hb
  have HG3 := Aside0.mk (blk_below HG.out hb')
  have HH3 := Aside0.mk (blk_below HH.out hb')
  have HZ3 := Aside0.mk (blk_below HZ.out hb')
  have HB3 := Aside0.mk (below_step HB.out hb')
  clear hb hb'
  obtain ⟨An, cn, rfl, hl_, hr_⟩ := Ob.reads ho; have HRn := Aside0.mk hr_; have HLn := Aside0.mk hl_; clear ho hl_ hr_
  (refine Shut.out hK _ _ trivial (fun hHeld => ?_); clear hK K; (try simp only [Act.put, List.getElem_toArray, List.getElem_cons_zero, List.getElem_cons_succ, List.setIfInBounds_toArray, List.set_cons_zero, List.set_cons_succ]))
  (refine wpAnyH_ready (rs := [4]) (by kernel_rfl) (by simp) (AllReadyH.cons rfl (fun K hK => ?_) AllReadyH.nil); go_simp)
  have HRR := Aside0.mk (show Rr (w3.alloc (.cells #[.slice An (intB seq).length cn, .slice (some ⟨g0, 0, none⟩) 32 32, .slice (some ⟨g0 + 1, 0, none⟩) 32 32] 22)) (some ⟨w3.heap.size, 0, none⟩) [intB seq, p, q] from lit_rr (blk_new w3 _) _ (by simp) (fun j l hj => by
    match j, hj with
    | 0, hj => cases hj; exact ⟨An, cn, rfl, HLn.out, Kd.C_alloc HRn.out _⟩
    | 1, hj => cases hj; exact ⟨some ⟨g0, 0, none⟩, 32, by rw [HLP.out.1]; rfl, Nat.le_of_eq HLP.out.1, rb_blk (by have h := blk_alloc HG3.out (.cells #[.slice An (intB seq).length cn, .slice (some ⟨g0, 0, none⟩) 32 32, .slice (some ⟨g0 + 1, 0, none⟩) 32 32] 22); rw [← HP.out] at h; exact h) (by rw [HLP.out.1]; decide)⟩
    | 2, hj => cases hj; exact ⟨some ⟨g0 + 1, 0, none⟩, 32, by rw [HLP.out.2]; rfl, Nat.le_of_eq HLP.out.2, rb_blk (by have h := blk_alloc HH3.out (.cells #[.slice An (intB seq).length cn, .slice (some ⟨g0, 0, none⟩) 32 32, .slice (some ⟨g0 + 1, 0, none⟩) 32 32] 22); rw [← HC.out] at h; exact h) (by rw [HLP.out.2]; decide)⟩))
  have HZ4 := Aside0.mk (blk_alloc HZ3.out (.cells #[.slice An (intB seq).length cn, .slice (some ⟨g0, 0, none⟩) 32 32, .slice (some ⟨g0 + 1, 0, none⟩) 32 32] 22))
  have HB4 := Aside0.mk (below_alloc HB3.out (.cells #[.slice An (intB seq).length cn, .slice (some ⟨g0, 0, none⟩) 32 32, .slice (some ⟨g0 + 1, 0, none⟩) 32 32] 22))
  (refine Shut.out hK _ _ trivial (fun hHeld => ?_); clear hK K; (try simp only [Act.put, List.getElem_toArray, List.getElem_cons_zero, List.getElem_cons_succ, List.setIfInBounds_toArray, List.set_cons_zero, List.set_cons_succ]))
  (refine wpAnyH_ready (rs := [5]) (by kernel_rfl) (by simp) (AllReadyH.cons rfl (fun K hK => ?_) AllReadyH.nil); go_simp)
  refine (csum_c 2 (by decide) (some ⟨w3.heap.size, 0, none⟩) 3 [intB seq, p, q] _ HRR.out (by simp) (by
    intro x hx y hy
    rcases List.mem_cons.1 hx with rfl | hx
    · exact numB_u8 (u64_range seq).2 y hy
    · rcases List.mem_cons.1 hx with rfl | hx
      · exact HU.out.1 y hy
      · rw [List.mem_singleton.1 hx] at hy
        exact HU.out.2 y hy) (by
    have h2 := numB_len (u64_range seq).2
    have h3 := HLP.out
    simp only [List.flatten_cons, List.flatten_nil, List.append_nil, List.length_append, intB]
    omega) (by simp)).mono ?_
  rintro e w6 ⟨rfl, hb6⟩
  obtain ⟨D, hD⟩ : ∃ D, (nums .u8 (shaB (linkB seq p q))).toArray = D := ⟨_, rfl⟩
  have HD := Aside0.mk hD
  have hds : D.size = 32 := by rw [← hD]; simp [nums, shaB_len]
  have HIF := Aside0.mk (show (Try.prog.info? 24).map (·.size) = some D.size by rw [hds]; exact info_32)
  have HSZ := Aside0.mk (show Z32.size = D.size by rw [hds]; simp [Z32, nums])
  have HONE := Aside0.mk (show D.all (·.oneCell') = true by rw [← hD]; exact nums_one _ _)
  rw [show sumV (shaB (2 :: [intB seq, p, q].flatten)) = .agg D by rw [← HD.out, linkB]; simp]
  have HZ6 := Aside0.mk (blk_below HZ4.out hb6)
  have HB6 := Aside0.mk (below_step HB4.out hb6)
  clear hb6 hD hds
  (refine Shut.out hK _ _ trivial (fun hHeld => ?_); clear hK K; (try simp only [Act.put, List.getElem_toArray, List.getElem_cons_zero, List.getElem_cons_succ, List.setIfInBounds_toArray, List.set_cons_zero, List.set_cons_succ]))
  refine wpAnyH_ready (rs := [6]) (by kernel_rfl) (by simp) (AllReadyH.cons rfl (fun K hK => ?_) AllReadyH.nil)
  rw [if_pos (by rfl)]
  refine wp_store_row 24 (.tmp 6) (.tmp 12) rfl (g0 + 1 + 1) D rfl rfl 24 Z32 HZ6.out HIF.out HSZ.out HONE.out ?_
  (refine Shut.out hK _ _ trivial (fun hHeld => ?_); clear hK K; (try simp only [Act.put, List.getElem_toArray, List.getElem_cons_zero, List.getElem_cons_succ, List.setIfInBounds_toArray, List.set_cons_zero, List.set_cons_succ]))
  refine wpAnyH_done (by kernel_rfl) ?_ _
  go_wp2_with (fail)
  have HSR := setRow_heap w6 (g0 + 1 + 1) Z32 D _ _ HZ6.out
  refine bodyPost_ret (v := .agg D) (results_cell_row rfl _ _ (g0 + 1 + 1) 24 D (0, 0) _ rfl HSR Try.underlying24 rfl HIF.out) rfl ⟨by rw [← HD.out], below_setRow HB6.out (by have := HG0.out; omega) D⟩
end Go.Proofs.Ytbebkogkeepfoaa.Com
/- The document's text of a link, and its sum. -/
namespace Go.Proofs.Ytbebkogkeepfoaa.Com
set_option linter.unusedVariables false
set_option linter.unusedSimpArgs false
open Go.RowKit Go.Proofs.Ytbebkogkeepfoaa.Base Go.Proofs.Ytbebkogkeepfoaa.TlvPlain Go.Proofs.Ytbebkogkeepfoaa.ShaPlain Go.Proofs.Ytbebkogkeepfoaa.Sha Go.Proofs.Ytbebkogkeepfoaa.Lo Go.Proofs.Ytbebkogkeepfoaa.Aid Go.Proofs.YtbebkogkeepfoaaW.PrintWords Go.Proofs.YtbebkogkeepfoaaW.PrintLast Go.Proofs.YtbebkogkeepfoaaW.PrintMore
theorem c32 {w : World} {g T : Nat} {xs : List Int} {C : Array Value} (h : w.heap[g]? = some (.cells C T (0, 0))) (hC : (nums .u8 xs).toArray = C) (hl : xs.length = 32) : Kd.C (Kd.int .u8) w (some ⟨g, 0, none⟩) 32 xs := by
  subst hC
  have h2 := rb_blk h (by rw [hl]; decide)
  have h3 : Kd.C (Kd.int .u8) w (some ⟨g, 0, none⟩) xs.length xs := h2
  rwa [hl] at h3
theorem intB_len (n : Int) : (intB n).length ≤ 9 := numB_len (u64_range n).2
set_option maxHeartbeats 4000000 in
set_option maxRecDepth 100000 in
theorem ltext_c (seq : Int) (p q : List Int) (hp : p.length = 32) (hq : q.length = 32) (w : World) :
    Calls Try.prog 29 #[.int .i64 seq, .agg (nums .u8 p).toArray, .agg (nums .u8 q).toArray] w (Makes w (linkB seq p q)) := by
  obtain ⟨P, hP⟩ : ∃ P, (nums .u8 p).toArray = P := ⟨_, rfl⟩
  obtain ⟨C, hC⟩ : ∃ C, (nums .u8 q).toArray = C := ⟨_, rfl⟩
  have HP := Aside0.mk hP
  have HC := Aside0.mk hC
  have HLP := Aside0.mk (And.intro hp hq)
  have HIL := Aside0.mk (intB_len seq)
  rw [hP, hC]
  clear hP hC hp hq
  have HG := Aside0.mk (show ((w.alloc (.cells P 24)).alloc (.cells C 24)).heap[w.heap.size]? = some (.cells P 24 (0, 0)) from blk_alloc (blk_new _ _) _)
  have HH := Aside0.mk (show ((w.alloc (.cells P 24)).alloc (.cells C 24)).heap[w.heap.size + 1]? = some (.cells C 24 (0, 0)) from second_new' _ _ _)
  have HB := Aside0.mk (show Below w.heap.size w ((w.alloc (.cells P 24)).alloc (.cells C 24)) from below_alloc (below_alloc (Below.refl _ _) _) _)
  unfold Makes
  go_enter Try.func29, Try.ntmps29
  go_wp2_with (first
    | ((with_reducible refine gate_dst (N := 8) rfl ?_); (try (refine gate_guard (by rfl) ?_; dsimp only)); refine lit_bytes (N := 8) ?hg ?hd [2] [.int .u8 (2)] rfl ?hr (by simp) ?_; (case hd => rfl); (case hg => rfl); (case hr => first | (go_simp; done) | (go_simp; rfl)); intro v w1 ho hb; have m1_ := Aside0.mk (blk_below HG.out hb); have m2_ := Aside0.mk (blk_below HH.out hb); have m3_ := Aside0.mk (below_step HB.out hb); have HO := Aside0.mk (Kd.R_lower ho HB.out.size); clear HG HH HB; have HG := m1_; have HH := m2_; have HB := m3_; clear m1_ m2_ m3_ hb ho)
    | (go_at_call 54; refine (rint_c seq _).mono ?_; rintro e w3 ⟨v, rfl, ho, hb⟩; have m0_ := Aside0.mk (Kd.R_below HO.out hb); have m1_ := Aside0.mk (blk_below HG.out hb); have m2_ := Aside0.mk (blk_below HH.out hb); have m3_ := Aside0.mk (below_step HB.out hb); clear HG HH HB HO; have HG := m1_; have HH := m2_; have HB := m3_; have HO := m0_; clear m0_ m1_ m2_ m3_ hb; obtain ⟨An, cn, rfl, hl_, hr_⟩ := Ob.reads ho; have HRn := Aside0.mk hr_; have HLn := Aside0.mk hl_; clear ho hl_ hr_)
    | ((with_reducible refine gate_builtin (b := .append) (xs := #[.tmp 8, .tmp 10]) rfl ?_); at_builtin; refine Kd.R_append_rows (Kd.int .u8) (w0 := w) w.heap.size rfl (.tmp 8) (.tmp 10) 22 5 (.int .u8 0) 1 rfl Try.underlying22 info_u8 rfl (by decide) (by omega) _ [2] (intB seq) _ _ _ (fun _ => True) (fun _ => False) rfl rfl HO.out HRn.out (fun _ _ h => h) (fun _ h => h.elim) (fun _ _ => trivial) HB.out HB.out.size (by have := HIL.out; simp; omega) ?_; intro v1 w5 ho hb hg hat; have m1_ := Aside0.mk (blk_grown HG.out hg (Kd.R_ne HO.out HG.out (by decide))); have m2_ := Aside0.mk (blk_grown HH.out hg (Kd.R_ne HO.out HH.out (by decide))); clear HG HH HB HO; have HG := m1_; have HH := m2_; have HB := Aside0.mk hb; have HO := Aside0.mk ho; clear m1_ m2_ hb ho hg hat))
  have HO1 := Aside0.mk (Kd.R_drew HO.out)
  have HB1 := Aside0.mk (below_drew1 HB.out)
  have HG1 := Aside0.mk (show w5.drew.heap[w.heap.size]? = some (.cells P 24 (0, 0)) from HG.out)
  have HH1 := Aside0.mk (show w5.drew.heap[w.heap.size + 1]? = some (.cells C 24 (0, 0)) from HH.out)
  refine wp_region_held_drew (S := fun _ => True) (by kernel_rfl) trivial (fun hHeld => ?_)
  (refine wpAnyH_take (i := 0) (v := ?_) rfl (by kernel_rfl) (by kernel_rfl) (by kernel_rfl) (fun _ _ _ h => h) (Or.inl ⟨by rfl, ?_⟩) (by assumption) ?_; (case' refine_2 => (intro w hSw; go_simp; try with_reducible rfl)); (try simp only [Act.put, List.getElem_toArray, List.getElem_cons_zero, List.getElem_cons_succ, List.setIfInBounds_toArray, List.set_cons_zero, List.set_cons_succ]))
  (refine wpAnyH_take (i := 1) (v := ?_) rfl (by kernel_rfl) (by kernel_rfl) (by kernel_rfl) (fun _ _ _ h => h) (Or.inl ⟨by rfl, ?_⟩) (by assumption) ?_; (case' refine_2 => (intro w hSw; go_simp; try with_reducible rfl)); (try simp only [Act.put, List.getElem_toArray, List.getElem_cons_zero, List.getElem_cons_succ, List.setIfInBounds_toArray, List.set_cons_zero, List.set_cons_succ]))
  (refine wpAnyH_take (i := 3) (v := ?_) rfl (by kernel_rfl) (by kernel_rfl) (by kernel_rfl) (fun _ _ _ h => h) (Or.inl ⟨by rfl, ?_⟩) (by assumption) ?_; (case' refine_2 => (intro w hSw; go_simp; try with_reducible rfl)); (try simp only [Act.put, List.getElem_toArray, List.getElem_cons_zero, List.getElem_cons_succ, List.setIfInBounds_toArray, List.set_cons_zero, List.set_cons_succ]))
  refine wpAnyH_ready (rs := [2]) (by kernel_rfl) (by simp) (AllReadyH.cons rfl (fun K hK => ?_) AllReadyH.nil)
  refine Kd.R_append_rows_step (Kd.int .u8) (w0 := w) w.heap.size rfl (.tmp 12) (.tmp 13) 22 5 (.int .u8 0) 1 rfl Try.underlying22 info_u8 rfl (by decide) (by omega) v1 ([2] ++ intB seq) p _ _ _ (fun _ => True) (fun _ => False) rfl rfl HO1.out (c32 HG1.out HP.out HLP.out.1) (fun _ _ h => h) (fun _ h => h.elim) (fun _ _ => trivial) HB1.out HB1.out.size (by have := HIL.out; simp; omega) ?_
  intro v2 w6 ho hb hg hat
  have HO2 := Aside0.mk ho
  have HB2 := Aside0.mk hb
  have HH2 := Aside0.mk (blk_grown HH1.out hg (Kd.R_ne HO1.out HH1.out (by decide)))
  clear ho hb hg hat
  (refine Shut.out hK _ _ trivial (fun hHeld => ?_); clear hK K; (try simp only [Act.put, List.getElem_toArray, List.getElem_cons_zero, List.getElem_cons_succ, List.setIfInBounds_toArray, List.set_cons_zero, List.set_cons_succ]))
  refine wpAnyH_ready (rs := [4]) (by kernel_rfl) (by simp) (AllReadyH.cons rfl (fun K hK => ?_) AllReadyH.nil)
  refine Kd.R_append_rows_step (Kd.int .u8) (w0 := w) w.heap.size rfl (.tmp 14) (.tmp 15) 22 5 (.int .u8 0) 1 rfl Try.underlying22 info_u8 rfl (by decide) (by omega) v2 ([2] ++ intB seq ++ p) q _ _ _ (fun _ => True) (fun _ => False) rfl rfl HO2.out (c32 HH2.out HC.out HLP.out.2) (fun _ _ h => h) (fun _ h => h.elim) (fun _ _ => trivial) HB2.out HB2.out.size (by have := HIL.out; have := HLP.out; simp; omega) ?_
  intro v3 w7 ho hb hg hat
  rw [show [2] ++ intB seq ++ p ++ q = linkB seq p q by simp [linkB]] at ho
  have HO3 := Aside0.mk ho
  have HB3 := Aside0.mk hb
  clear ho hb hg hat
  (refine Shut.out hK _ _ trivial (fun hHeld => ?_); clear hK K; (try simp only [Act.put, List.getElem_toArray, List.getElem_cons_zero, List.getElem_cons_succ, List.setIfInBounds_toArray, List.set_cons_zero, List.set_cons_succ]))
  (refine wpAnyH_take (i := 5) (v := ?_) rfl (by kernel_rfl) (by kernel_rfl) (by kernel_rfl) (fun _ _ _ h => h) (Or.inl ⟨by rfl, ?_⟩) (by assumption) ?_; (case' refine_2 => (intro w hSw; go_simp; try with_reducible rfl)); (try simp only [Act.put, List.getElem_toArray, List.getElem_cons_zero, List.getElem_cons_succ, List.setIfInBounds_toArray, List.set_cons_zero, List.set_cons_succ]))
  refine wpAnyH_done (by kernel_rfl) ?_ _
  go_wp2_with (fail)
  go_ret
  exact ⟨_, rfl, HO3.out, HB3.out⟩
end Go.Proofs.Ytbebkogkeepfoaa.Com
/- CommitLinks: the document's link, the law's walk. -/
namespace Go.Proofs.Ytbebkogkeepfoaa.Com
set_option linter.unusedVariables false
set_option linter.unusedSimpArgs false
open Go.RowKit Go.Proofs.Ytbebkogkeepfoaa.Base Go.Proofs.Ytbebkogkeepfoaa.TlvPlain Go.Proofs.Ytbebkogkeepfoaa.ShaPlain Go.Proofs.Ytbebkogkeepfoaa.Sha Go.Proofs.Ytbebkogkeepfoaa.Lo Go.Proofs.Ytbebkogkeepfoaa.Aid Go.Proofs.YtbebkogkeepfoaaW.PrintWords Go.Proofs.YtbebkogkeepfoaaW.PrintLast Go.Proofs.YtbebkogkeepfoaaW.PrintMore
theorem linkB_len {seq : Int} {p q : List Int} (hp : p.length = 32) (hq : q.length = 32) : (linkB seq p q).length ≤ 74 := by
  have := intB_len seq
  unfold linkB
  rw [List.length_cons, List.length_append, List.length_append]
  omega
theorem linkB_u8 {seq : Int} {p q : List Int} (hp : U8 p) (hq : U8 q) : U8 (linkB seq p q) := by
  intro x hx
  rcases List.mem_cons.1 hx with rfl | hx
  · exact ⟨by decide, by decide⟩
  · rcases List.mem_append.1 hx with hx | hx
    · exact numB_u8 (u64_range seq).2 x hx
    · exact (List.mem_append.1 hx).elim (hp x) (hq x)
set_option maxHeartbeats 4000000 in
set_option maxRecDepth 100000 in
theorem rlink_c (seq : Int) (p q : List Int) (hp : p.length = 32) (hq : q.length = 32) (hpu : U8 p) (hqu : U8 q) (w : World) :
    Calls Try.prog 26 #[.int .i64 seq, .agg (nums .u8 p).toArray, .agg (nums .u8 q).toArray] w fun e w' => e = .returned (sumV (shaB (linkB seq p q))) ∧ Below w.heap.size w w' := by
  obtain ⟨P, hP⟩ : ∃ P, (nums .u8 p).toArray = P := ⟨_, rfl⟩
  obtain ⟨C, hC⟩ : ∃ C, (nums .u8 q).toArray = C := ⟨_, rfl⟩
  have HLT := Aside0.mk (ltext_c seq p q hp hq)
  have hps : P.size = 32 := by rw [← hP]; simp [nums, hp]
  have hqs : C.size = 32 := by rw [← hC]; simp [nums, hq]
  have HIP := Aside0.mk (show (Try.prog.info? 24).map (·.size) = some P.size by rw [hps]; exact info_32)
  have HIC := Aside0.mk (show (Try.prog.info? 24).map (·.size) = some C.size by rw [hqs]; exact info_32)
  have HLEN := Aside0.mk (linkB_len (seq := seq) hp hq)
  have HU := Aside0.mk (linkB_u8 (seq := seq) hpu hqu)
  rw [hP, hC] at HLT
  rw [hP, hC]
  clear hP hC hp hq hpu hqu hps hqs
  have HG := Aside0.mk (show (((w.alloc (.cells P 24)).alloc (.cells C 24)).alloc (.cells Z32 24)).heap[w.heap.size]? = some (.cells P 24 (0, 0)) from blk_alloc (blk_alloc (blk_new _ _) _) _)
  have HH := Aside0.mk (show (((w.alloc (.cells P 24)).alloc (.cells C 24)).alloc (.cells Z32 24)).heap[w.heap.size + 1]? = some (.cells C 24 (0, 0)) from blk_alloc (second_new' _ _ _) _)
  have HZ := Aside0.mk (show (((w.alloc (.cells P 24)).alloc (.cells C 24)).alloc (.cells Z32 24)).heap[w.heap.size + 1 + 1]? = some (.cells Z32 24 (0, 0)) from third_new _ _ _ _)
  have HB := Aside0.mk (show Below w.heap.size w (((w.alloc (.cells P 24)).alloc (.cells C 24)).alloc (.cells Z32 24)) from below_alloc (below_alloc (below_alloc (Below.refl _ _) _) _) _)
  go_enter Try.func26, Try.ntmps26
  go_wp2_with (first
    | ((with_reducible refine gate_dst (N := 8) rfl ?_); refine wpList_load_row rfl 24 (.tmp 4) rfl w.heap.size rfl 24 P (0, 0) _ (by exact HG.out) Try.underlying24 rfl HIP.out ?_)
    | ((with_reducible refine gate_dst (N := 9) rfl ?_); refine wpList_load_row rfl 24 (.tmp 5) rfl (w.heap.size + 1) rfl 24 C (0, 0) _ (by exact HH.out) Try.underlying24 rfl HIC.out ?_))
  refine (HLT.out _).mono ?_
  rintro e w3 ⟨v, rfl, ho, hb⟩
  have HZ3 := Aside0.mk (blk_below HZ.out hb)
  have HB3 := Aside0.mk (below_step HB.out hb)
  clear hb
  obtain ⟨An, cn, rfl, hl_, hr_⟩ := Ob.reads ho; have HRn := Aside0.mk hr_; have HLn := Aside0.mk hl_; clear ho hl_ hr_
  go_wp2_with (fail)
  refine (rof_c An cn (linkB seq p q) w3 HRn.out HLn.out HU.out (by have := HLEN.out; omega)).mono ?_
  rintro e w6 ⟨rfl, hb6⟩
  obtain ⟨D, hD⟩ : ∃ D, (nums .u8 (shaB (linkB seq p q))).toArray = D := ⟨_, rfl⟩
  have HD := Aside0.mk hD
  have hds : D.size = 32 := by rw [← hD]; simp [nums, shaB_len]
  have HIF := Aside0.mk (show (Try.prog.info? 24).map (·.size) = some D.size by rw [hds]; exact info_32)
  have HSZ := Aside0.mk (show Z32.size = D.size by rw [hds]; simp [Z32, nums])
  have HONE := Aside0.mk (show D.all (·.oneCell') = true by rw [← hD]; exact nums_one _ _)
  rw [show sumV (shaB (linkB seq p q)) = .agg D by rw [← HD.out]]
  have HZ6 := Aside0.mk (blk_below HZ3.out hb6)
  have HB6 := Aside0.mk (below_step HB3.out hb6)
  clear hb6 hD hds
  go_wp2_with ((with_reducible refine gate_store (t := 24) (p := 6) (v := .tmp 11) rfl ?_); refine wpList_store_row rfl 24 (.tmp 6) (.tmp 11) rfl (w.heap.size + 1 + 1) D rfl rfl 24 Z32 HZ6.out HIF.out HSZ.out HONE.out ?_)
  have HSR := setRow_heap w6 (w.heap.size + 1 + 1) Z32 D _ _ HZ6.out
  refine bodyPost_ret (v := .agg D) (results_cell_row rfl _ _ (w.heap.size + 1 + 1) 24 D (0, 0) _ rfl HSR Try.underlying24 rfl HIF.out) rfl ⟨by rw [← HD.out], below_setRow HB6.out (by omega) D⟩
set_option maxHeartbeats 8000000 in
set_option maxRecDepth 100000 in
theorem links_walk (w : World) (seq : Int) (p q : List Int) (hp : p.length = 32) (hq : q.length = 32) (hpu : U8 p) (hqu : U8 q) :
    Calls Try.prog 7 #[.int .i64 seq, .agg (nums .u8 p).toArray, .agg (nums .u8 q).toArray] w fun e w' => e = .returned (.bool true) ∧ Below w.heap.size w w' := by
  obtain ⟨P, hP⟩ : ∃ P, nums .u8 p = P := ⟨_, rfl⟩
  obtain ⟨C, hC⟩ : ∃ C, nums .u8 q = C := ⟨_, rfl⟩
  obtain ⟨cs, hcs⟩ : ∃ cs, nums .u8 (shaB (linkB seq p q)) = cs := ⟨_, rfl⟩
  have HIP := Aside0.mk (size_32 (cs := P) (by rw [← hP]; simp [nums, hp]))
  have HIC := Aside0.mk (size_32 (cs := C) (by rw [← hC]; simp [nums, hq]))
  have HL := Aside0.mk (link_c seq p q hp hq hpu hqu)
  have HRL := Aside0.mk (rlink_c seq p q hp hq hpu hqu)
  have HE1 := Aside0.mk (run_eq_sum (shaB (linkB seq p q)) (shaB (linkB seq p q)) (shaB_len _) (shaB_len _))
  simp only [sumV, decide_true] at HL HRL HE1
  rw [hP, hC, hcs] at HL HRL
  rw [hcs] at HE1
  rw [hP, hC]
  clear hP hC hcs hp hq hpu hqu
  go_enter Try.func7, Try.ntmps7
  go_wp2_with (fail)
  have HG := Aside0.mk (show ((w.alloc (.cells P.toArray 24)).alloc (.cells C.toArray 24)).heap[w.heap.size]? = some (.cells P.toArray 24 (0, 0)) from blk_alloc (blk_new _ _) _)
  have HH := Aside0.mk (show ((w.alloc (.cells P.toArray 24)).alloc (.cells C.toArray 24)).heap[w.heap.size + 1]? = some (.cells C.toArray 24 (0, 0)) from second_new' _ _ _)
  have HB := Aside0.mk (show Below w.heap.size w ((w.alloc (.cells P.toArray 24)).alloc (.cells C.toArray 24)) from below_alloc (below_alloc (Below.refl _ _) _) _)
  obtain ⟨W, hW⟩ : ∃ W, (w.alloc (.cells P.toArray 24)).alloc (.cells C.toArray 24) = W := ⟨_, rfl⟩
  rw [hW] at HG HH HB ⊢
  obtain ⟨g, hg⟩ : ∃ g, w.heap.size = g := ⟨_, rfl⟩
  obtain ⟨h, hh⟩ : ∃ h, g + 1 = h := ⟨_, rfl⟩
  rw [hg] at HG HH ⊢
  rw [hh] at HH ⊢
  clear hW hg hh
  have hguard := guard_32
  have heq1 := HE1.out
  have hu24 := Try.underlying24
  refine wp_region_held_drew (S := fun w' => w'.rangeAt g 0 P ∧ w'.rangeAt h 0 C) (by kernel_rfl) (And.intro (range_blk HG.out) (range_blk HH.out)) (fun hHeld => ?_)
  (refine wpAnyH_take (i := 0) (v := ?_) rfl (by kernel_rfl) (by kernel_rfl) (by kernel_rfl) (fun _ _ _ h => h) (Or.inl ⟨by rfl, ?_⟩) (by assumption) ?_; (case' refine_2 => (intro w hSw; go_simp; try with_reducible rfl)); (try simp only [Act.put, List.getElem_toArray, List.getElem_cons_zero, List.getElem_cons_succ, List.setIfInBounds_toArray, List.set_cons_zero, List.set_cons_succ]))
  (refine wpAnyH_take (i := 1) rfl (by kernel_rfl) (by kernel_rfl) (by kernel_rfl) (fun _ _ _ h => h) (yieldsIf_load_mid (by rfl) _ _ rfl _ _ rfl _ _ (fun _ h => h.1) (by assumption) rfl HIP.out) (by assumption) ?_; (try simp only [Act.put, List.getElem_toArray, List.getElem_cons_zero, List.getElem_cons_succ, List.setIfInBounds_toArray, List.set_cons_zero, List.set_cons_succ]))
  (refine wpAnyH_take (i := 2) rfl (by kernel_rfl) (by kernel_rfl) (by kernel_rfl) (fun _ _ _ h => h) (yieldsIf_load_mid (by rfl) _ _ rfl _ _ rfl _ _ (fun _ h => h.2) (by assumption) rfl HIC.out) (by assumption) ?_; (try simp only [Act.put, List.getElem_toArray, List.getElem_cons_zero, List.getElem_cons_succ, List.setIfInBounds_toArray, List.set_cons_zero, List.set_cons_succ]))
  (refine wpAnyH_take (i := 4) (v := ?_) rfl (by kernel_rfl) (by kernel_rfl) (by kernel_rfl) (fun _ _ _ h => h) (Or.inl ⟨by rfl, ?_⟩) (by assumption) ?_; (case' refine_2 => (intro w hSw; go_simp; try with_reducible rfl)); (try simp only [Act.put, List.getElem_toArray, List.getElem_cons_zero, List.getElem_cons_succ, List.setIfInBounds_toArray, List.set_cons_zero, List.set_cons_succ]))
  (refine wpAnyH_take (i := 5) rfl (by kernel_rfl) (by kernel_rfl) (by kernel_rfl) (fun _ _ _ h => h) (yieldsIf_load_mid (by rfl) _ _ rfl _ _ rfl _ _ (fun _ h => h.1) (by assumption) rfl HIP.out) (by assumption) ?_; (try simp only [Act.put, List.getElem_toArray, List.getElem_cons_zero, List.getElem_cons_succ, List.setIfInBounds_toArray, List.set_cons_zero, List.set_cons_succ]))
  (refine wpAnyH_take (i := 6) rfl (by kernel_rfl) (by kernel_rfl) (by kernel_rfl) (fun _ _ _ h => h) (yieldsIf_load_mid (by rfl) _ _ rfl _ _ rfl _ _ (fun _ h => h.2) (by assumption) rfl HIC.out) (by assumption) ?_; (try simp only [Act.put, List.getElem_toArray, List.getElem_cons_zero, List.getElem_cons_succ, List.setIfInBounds_toArray, List.set_cons_zero, List.set_cons_succ]))
  (refine wpAnyH_ready (rs := [3]) (by kernel_rfl) (by simp) (AllReadyH.cons rfl (fun K hK => ?_) AllReadyH.nil); go_simp)
  refine (HL.out _).mono ?_
  rintro e w3 ⟨rfl, hb⟩
  have HG3 := Aside0.mk (blk_below HG.out (below_drew_of hb))
  have HH3 := Aside0.mk (blk_below HH.out (below_drew_of hb))
  have HB3 := Aside0.mk (below_step HB.out (below_drew_of hb))
  clear hb
  (refine Shut.out hK _ _ (And.intro (range_blk HG3.out) (range_blk HH3.out)) (fun hHeld => ?_); clear hK K; (try simp only [Act.put, List.getElem_toArray, List.getElem_cons_zero, List.getElem_cons_succ, List.setIfInBounds_toArray, List.set_cons_zero, List.set_cons_succ]))
  (refine wpAnyH_ready (rs := [7]) (by kernel_rfl) (by simp) (AllReadyH.cons rfl (fun K hK => ?_) AllReadyH.nil); go_simp)
  refine (HRL.out _).mono ?_
  rintro e w4 ⟨rfl, hb⟩
  have HG4 := Aside0.mk (blk_below HG3.out hb)
  have HH4 := Aside0.mk (blk_below HH3.out hb)
  have HB4 := Aside0.mk (below_step HB3.out hb)
  clear hb
  (refine Shut.out hK _ _ (And.intro (range_blk HG4.out) (range_blk HH4.out)) (fun hHeld => ?_); clear hK K; (try simp only [Act.put, List.getElem_toArray, List.getElem_cons_zero, List.getElem_cons_succ, List.setIfInBounds_toArray, List.set_cons_zero, List.set_cons_succ]))
  (refine wpAnyH_take (i := 8) (v := ?_) rfl (by kernel_rfl) (by kernel_rfl) (by kernel_rfl) (fun _ _ _ h => h) (Or.inl ⟨by rfl, ?_⟩) (by assumption) ?_; (case' refine_2 => (intro w hSw; go_simp; try with_reducible rfl)); (try simp only [Act.put, List.getElem_toArray, List.getElem_cons_zero, List.getElem_cons_succ, List.setIfInBounds_toArray, List.set_cons_zero, List.set_cons_succ]))
  (refine wpAnyH_take (i := 9) (v := ?_) rfl (by kernel_rfl) (by kernel_rfl) (by kernel_rfl) (fun _ _ _ h => h) (Or.inl ⟨by rfl, ?_⟩) (by assumption) ?_; (case' refine_2 => (intro w hSw; go_simp; try with_reducible rfl)); (try simp only [Act.put, List.getElem_toArray, List.getElem_cons_zero, List.getElem_cons_succ, List.setIfInBounds_toArray, List.set_cons_zero, List.set_cons_succ]))
  (refine wpAnyH_ready (rs := [10]) (by kernel_rfl) (by simp) (AllReadyH.cons rfl (fun K hK => ?_) AllReadyH.nil); go_simp)
  refine (live7_c _).mono ?_
  rintro e w6 ⟨rfl, hb⟩
  have HG6 := Aside0.mk (blk_below HG4.out hb)
  have HH6 := Aside0.mk (blk_below HH4.out hb)
  have HB6 := Aside0.mk (below_step HB4.out hb)
  clear hb
  (refine Shut.out hK _ _ (And.intro (range_blk HG6.out) (range_blk HH6.out)) (fun hHeld => ?_); clear hK K; (try simp only [Act.put, List.getElem_toArray, List.getElem_cons_zero, List.getElem_cons_succ, List.setIfInBounds_toArray, List.set_cons_zero, List.set_cons_succ]))
  (refine wpAnyH_take (i := 11) (v := ?_) rfl (by kernel_rfl) (by kernel_rfl) (by kernel_rfl) (fun _ _ _ h => h) (Or.inl ⟨by rfl, ?_⟩) (by assumption) ?_; (case' refine_2 => (intro w hSw; go_simp; try with_reducible rfl)); (try simp only [Act.put, List.getElem_toArray, List.getElem_cons_zero, List.getElem_cons_succ, List.setIfInBounds_toArray, List.set_cons_zero, List.set_cons_succ]))
  (refine wpAnyH_take (i := 12) (v := ?_) rfl (by kernel_rfl) (by kernel_rfl) (by kernel_rfl) (fun _ _ _ h => h) (Or.inl ⟨by rfl, ?_⟩) (by assumption) ?_; (case' refine_2 => (intro w hSw; go_simp; try with_reducible rfl)); (try simp only [Act.put, List.getElem_toArray, List.getElem_cons_zero, List.getElem_cons_succ, List.setIfInBounds_toArray, List.set_cons_zero, List.set_cons_succ]))
  refine wpAnyH_done (by kernel_rfl) ?_ _
  go_wp2_with (fail)
  go_ret
  exact ⟨rfl, HB6.out⟩
theorem linksWalk (w : World) (seq : Int) (_ : (Lit.int .i64 seq).wf = true) (p : List Int) (cp : Array Value) (hp : (Kd.arr 32 (Kd.int .u8) (by decide)).K w p cp.toList) (okp : ∀ x ∈ p, (Lit.int .u8 x).wf = true)
    (q : List Int) (cq : Array Value) (hq : (Kd.arr 32 (Kd.int .u8) (by decide)).K w q cq.toList) (okq : ∀ x ∈ q, (Lit.int .u8 x).wf = true) :
    Calls Try.prog 7 #[.int .i64 seq, .agg cp, .agg cq] w fun e w' => e = .returned (.bool true) ∧ Below w.heap.size w w' := by
  obtain ⟨rfl, hl⟩ := arr_sum hp
  obtain ⟨rfl, hl2⟩ := arr_sum hq
  exact links_walk w seq p q hl hl2 (fun x hx => byte_wf (okp x hx)) (fun x hx => byte_wf (okq x hx))
end Go.Proofs.Ytbebkogkeepfoaa.Com
