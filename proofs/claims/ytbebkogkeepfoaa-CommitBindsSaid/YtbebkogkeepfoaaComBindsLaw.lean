import Derived.Test.YtbebkogkeepfoaaShaParts
import Derived.Test.YtbebkogkeepfoaaShaSums
import Derived.Test.YtbebkogkeepfoaaOpen
import Derived.Test.YtbebkogkeepfoaaLo0
import Derived.Test.YtbebkogkeepfoaaPZxFhanaperref07Text
import Derived.WideShapes
import Derived.Deep.CutRange
/- commit: sum walked. -/
namespace Go.Proofs.Ytbebkogkeepfoaa.Com
set_option linter.unusedVariables false
set_option linter.unusedSimpArgs false
open Go.RowKit Go.Proofs.Ytbebkogkeepfoaa.Base Go.Proofs.Ytbebkogkeepfoaa.ShaPlain Go.Proofs.Ytbebkogkeepfoaa.Sha Go.Proofs.Ytbebkogkeepfoaa.Aid Go.Proofs.YtbebkogkeepfoaaW.PrintWords Go.Proofs.YtbebkogkeepfoaaW.PrintLast Go.Proofs.YtbebkogkeepfoaaW.PrintMore
theorem info_row : (Try.prog.info? 22).map (fun i => (i.zero, i.size, i.bytes)) = some (some (.slice none 0 0), 1, 24) := by kernel_rfl
/-- What lies in the cells of rows, and what it reads as. -/
def IsRow (w : World) (l : List (List Int)) (vs : List (List Value)) : Prop := vs.length = l.length ∧ ∀ (j : Nat) (b : List Int), l[j]? = some b → ∃ (A : Option Addr) (c : Nat), vs[j]? = some [Value.slice A b.length c] ∧ b.length ≤ c ∧ Rb w A b
theorem IsRow.below {w w1 : World} {l : List (List Int)} {vs : List (List Value)} (h : IsRow w l vs) (hb : Below w.heap.size w w1) : IsRow w1 l vs :=
  ⟨h.1, fun j b hj => by obtain ⟨A, c, h1, h2, h3⟩ := h.2 j b hj; exact ⟨A, c, h1, h2, Kd.C_below h3 hb⟩⟩
theorem raw_of_rows {w : World} {A : Option Addr} {l : List (List Int)} (h : Rr w A l) : ∃ vs, IsRow w l vs ∧ Kd.C (Kd.raw 1) w A l.length vs := by
  by_cases h0 : l.length = 0
  · refine ⟨[], ⟨by simp [h0], fun j b hj => ?_⟩, by simp [h0], by omega, fun h => by omega⟩
    have := (List.getElem?_eq_some_iff.1 hj).1
    omega
  · obtain ⟨ad, hA, hc⟩ := h.2.2 (by omega)
    obtain ⟨vs, hl, hv⟩ := Open.choose_list (p := fun (j : Nat) (v : Value) => ∃ (b : List Int) (A1 : Option Addr) (c1 : Nat), l[j]? = some b ∧ v = .slice A1 b.length c1 ∧ b.length ≤ c1 ∧ Rb w A1 b ∧ w.cell? (ad.add j) = some v) l.length (fun j hj => by
      obtain ⟨ad', A1, c1, e, h1, h2, h3⟩ := rows_at h j hj
      rw [hA] at e
      injection e with e
      subst e
      exact ⟨_, l[j], A1, c1, List.getElem?_eq_getElem hj, rfl, h2, h3, h1⟩)
    refine ⟨vs.map fun v => [v], ⟨by simp [hl], fun j b hj => ?_⟩, by simp [hl], h.2.1, fun _ => ⟨ad, hA, fun j p hj => ?_⟩⟩
    · have hjl := (List.getElem?_eq_some_iff.1 hj).1
      obtain ⟨b', A1, c1, e, rfl', h2, h3, _⟩ := hv j (vs[j]'(by omega)) (List.getElem?_eq_getElem _)
      rw [hj] at e
      injection e with e
      subst e
      exact ⟨A1, c1, by rw [List.getElem?_map, List.getElem?_eq_getElem (by omega), rfl']; rfl, h2, h3⟩
    · rw [List.getElem?_map] at hj
      obtain ⟨v, hv', rfl⟩ := Option.map_eq_some_iff.1 hj
      obtain ⟨b', A1, c1, e, rfl, h2, h3, h4⟩ := hv j v hv'
      refine ⟨[.slice A1 b'.length c1], rfl, ⟨rfl, rfl, by simp; rfl⟩, fun i u hu => ?_⟩
      have hi0 : i = 0 := by
        have := (List.getElem?_eq_some_iff.1 hu).1
        simp at this
        exact this
      subst hi0
      rw [show j * (Kd.raw 1).sz + 0 = j from by show j * 1 + 0 = j; omega, h4]
      exact hu
theorem rows_of_raw {w : World} {A : Option Addr} {l : List (List Int)} {vs : List (List Value)} (h : Kd.C (Kd.raw 1) w A vs.length vs) (hi : IsRow w l vs) : Rr w A l := by
  refine ⟨rfl, by rw [← hi.1]; exact h.2.1, fun h0 => ?_⟩
  obtain ⟨ad, hA, hc⟩ := h.2.2 (by rw [hi.1]; exact h0)
  refine ⟨ad, hA, fun j b hj => ?_⟩
  obtain ⟨A1, c1, h1, h2, h3⟩ := hi.2 j b hj
  obtain ⟨cs, _, ⟨e, _, _⟩, h4⟩ := hc j _ h1
  subst e
  exact ⟨_, rfl, ⟨A1, c1, rfl, h2, h3⟩, h4⟩
theorem IsRow.cons {w : World} {l : List (List Int)} {vs : List (List Value)} {b : List Int} {A : Option Addr} {c : Nat} (h : IsRow w l vs) (hr : Rb w A b) (hc : b.length ≤ c) : IsRow w (b :: l) ([.slice A b.length c] :: vs) := by
  refine ⟨by simp [h.1], fun j x hj => ?_⟩
  cases j with
  | zero =>
    injection hj with hj
    subst hj
    exact ⟨A, c, rfl, hc, hr⟩
  | succ j => exact h.2 j x hj
theorem one_raw {w : World} {base : Nat} {ok : Nat → Prop} (v : Value) (h : v.oneCell' = true) : Reps ((Kd.raw 1).M w base ok) (Kd.raw 1).sz [[v]] [v] :=
  ⟨rfl, fun j p hj => by
    cases j with
    | zero =>
      injection hj with hj
      subst hj
      exact ⟨rfl, rfl, fun u hu => by rw [List.mem_singleton.1 hu]; exact h⟩
    | succ j => simp at hj⟩
set_option maxHeartbeats 4000000 in
set_option maxRecDepth 100000 in
theorem csum_c (tag : Int) (ht : 0 ≤ tag ∧ tag ≤ 255) (A : Option Addr) (c : Nat) (l : List (List Int)) (w : World) (hr : Rr w A l) (hc : l.length ≤ c) (hu : ∀ p ∈ l, ∀ x ∈ p, 0 ≤ x ∧ x ≤ 255) (hn : l.flatten.length ≤ 1000000) (hl : l.length ≤ 1000) :
    Calls Try.prog 48 #[.int .u8 tag, .slice A l.length c] w fun e w' => e = .returned (sumV (shaB (tag :: l.flatten))) ∧ Below w.heap.size w w' := by
  obtain ⟨vs, hi, hraw⟩ := raw_of_rows hr
  have HT := Aside0.mk ht
  have HI := Aside0.mk hi
  have HRAW := Aside0.mk hraw
  have HU := Aside0.mk hu
  have HN := Aside0.mk hn
  have HL := Aside0.mk hl
  have HZ := Aside0.mk (show (w.alloc (.cells Z32 24)).heap[w.heap.size]? = some (.cells Z32 24 (0, 0)) from blk_new _ _)
  have HB := Aside0.mk (below_alloc (Below.refl w.heap.size w) (.cells Z32 24))
  clear hr hu hn hl hi hraw ht
  go_enter Try.func48, Try.ntmps48
  go_wp2_with (first
    | ((with_reducible refine gate_dst (N := 7) rfl ?_); (try (refine gate_guard (by rfl) ?_; dsimp only)); refine lit_bytes (N := 7) ?hg ?hd [tag] [.int .u8 (tag)] rfl ?hr (by simp) ?_; (case hd => rfl); (case hg => rfl); (case hr => first | (go_simp; done) | (go_simp; rfl)); intro v w1 ho hb; have n2_ := Aside0.mk (below_step HB.out hb); have n3_ := Aside0.mk (blk_below HZ.out hb); clear HB HZ; have HB := n2_; have HZ := n3_; clear n2_ n3_ hb; obtain ⟨Aq, cq, rfl, hl_, hr_⟩ := Ob.reads ho; have HRq := Aside0.mk hr_; have HLq := Aside0.mk hl_; clear ho hl_ hr_)
    | ((with_reducible refine gate_dst (N := 8) rfl ?_); refine Kd.R_lit (Kd.raw 1) (w0 := w1) w1.heap.size 22 ?hg8 (N := 8) ?hd8 (xs := [[.slice Aq 1 cq]]) (inner := [.slice Aq 1 cq]) (ok := fun _ => True) (okp := fun _ => True) ?hr8 (one_raw _ rfl) (fun _ hk => hk) trivial (Below.refl _ _) (Nat.le_refl _) (by simp) ?_; (case hd8 => rfl); (case hg8 => rfl); (case hr8 => first | (go_simp; done) | (go_simp; rfl)); intro v0 w3 ho4 hb hg_ hnew_; have HO := Aside0.mk ho4; have HB3 := Aside0.mk hb; clear hb ho4 hg_ hnew_)
    | ((with_reducible refine gate_builtin (b := .append) (xs := #[.tmp 8, .tmp 9]) rfl ?_); at_builtin; refine Kd.R_append_rows (Kd.raw 1) (w0 := w1) w1.heap.size rfl (.tmp 8) (.tmp 9) 29 22 (.slice none 0 0) 24 rfl Try.underlying29 info_row rfl (by decide) (by omega) v0 [[.slice Aq 1 cq]] vs _ _ _ (fun _ => True) (fun _ => False) rfl rfl HO.out (Kd.C_below HRAW.out (below_step HB.out HB3.out)) (fun _ _ h => h) (fun _ h => h.elim) (fun _ _ => trivial) HB3.out HB3.out.size (by have := HL.out; simp; omega) ?_; intro v1 w5 ho hb hg hat; have HO5 := Aside0.mk ho; have HB5 := Aside0.mk hb; clear ho hb hg hat))
  obtain ⟨A5, c5, rfl, hc5, hr5⟩ := Kd.R_reads HO5.out
  have HZ5 := Aside0.mk (blk_below HZ.out HB5.out)
  have HBW := Aside0.mk (below_step HB.out HB5.out)
  have HRR := Aside0.mk (rows_of_raw hr5 ((HI.out.below HBW.out).cons (Kd.C_below HRq.out HB5.out) (b := [tag]) HLq.out))
  obtain ⟨nn, hnn⟩ : ∃ nn, ([[Value.slice Aq 1 cq]] ++ vs).length = nn := ⟨_, rfl⟩
  have hne : nn = ([tag] :: l).length := by rw [← hnn]; simp [HI.out.1]
  have HC5 := Aside0.mk hc5
  rw [hnn] at HC5 ⊢
  have HCALL := Aside0.mk (show Calls Try.prog 14 #[.slice A5 nn c5] w5 fun e w' => e = .returned (sumV (shaB (tag :: l.flatten))) ∧ Below w5.heap.size w5 w' by
    have h := of_c A5 c5 ([tag] :: l) w5 HRR.out (by rw [← hne]; exact HC5.out) (by
      intro p hp x hx
      rcases List.mem_cons.1 hp with rfl | hp
      · rw [List.mem_singleton.1 hx]; exact HT.out
      · exact HU.out p hp x hx) (by have := HN.out; simp only [List.flatten_cons, List.length_append, List.length_cons, List.length_nil]; omega) (by have := HL.out; simp only [List.length_cons]; omega)
    rw [hne]
    exact h)
  obtain ⟨D, hD⟩ : ∃ D, (nums .u8 (shaB (tag :: l.flatten))).toArray = D := ⟨_, rfl⟩
  have HD := Aside0.mk hD
  have hds : D.size = 32 := by rw [← hD]; simp [nums, shaB_len]
  have HIF := Aside0.mk (show (Try.prog.info? 24).map (·.size) = some D.size by rw [hds]; exact info_32)
  have HSZ := Aside0.mk (show Z32.size = D.size by rw [hds]; simp [Z32, nums])
  have HONE := Aside0.mk (show D.all (·.oneCell') = true by rw [← hD]; exact nums_one _ _)
  clear hc5 hr5 hnn hne hD hds HO HO5 HRR
  go_wp2_with (fail)
  refine HCALL.out.mono ?_
  rintro e w6 ⟨rfl, hb6⟩
  rw [show sumV (shaB (tag :: l.flatten)) = .agg D by rw [← HD.out]]
  have HZ6 := Aside0.mk (blk_below HZ5.out hb6)
  have HB6 := Aside0.mk (below_step HBW.out hb6)
  clear hb6
  go_wp2_with ((with_reducible refine gate_store (t := 24) (p := 4) (v := .tmp 12) rfl ?_); refine wpList_store_row rfl 24 (.tmp 4) (.tmp 12) rfl w.heap.size D rfl rfl 24 Z32 HZ6.out HIF.out HSZ.out HONE.out ?_)
  have HSR := setRow_heap w6 w.heap.size Z32 D _ _ HZ6.out
  refine bodyPost_ret (v := .agg D) (results_cell_row rfl _ _ w.heap.size 24 D (0, 0) _ rfl HSR Try.underlying24 rfl HIF.out) rfl ⟨by rw [← HD.out], below_setRow HB6.out (Nat.le_refl _) D⟩
end Go.Proofs.Ytbebkogkeepfoaa.Com
/- commit: Of walked, and the document's. -/
namespace Go.Proofs.Ytbebkogkeepfoaa.Com
set_option linter.unusedVariables false
set_option linter.unusedSimpArgs false
open Go.RowKit Go.Proofs.Ytbebkogkeepfoaa.Base Go.Proofs.Ytbebkogkeepfoaa.TlvPlain Go.Proofs.Ytbebkogkeepfoaa.ShaPlain Go.Proofs.Ytbebkogkeepfoaa.Sha Go.Proofs.Ytbebkogkeepfoaa.Lo Go.Proofs.Ytbebkogkeepfoaa.Aid Go.Proofs.YtbebkogkeepfoaaW.PrintWords Go.Proofs.YtbebkogkeepfoaaW.PrintLast Go.Proofs.YtbebkogkeepfoaaW.PrintMore Go.Proofs.Ytbebkogkeepfoaa.PZ
/-- What is summed for a commitment. -/
def comB (salt : Int) (b : List Int) : List Int := 1 :: (numB salt ++ textB b)
theorem textB_u8 {l : List Int} (h : U8 l) (hl : l.length ≤ 1000000) : U8 (textB l) := fun x hx => (List.mem_append.1 hx).elim (numB_u8 (by omega) x) (h x)
theorem textB_len {l : List Int} (hl : l.length ≤ 1000000) : (textB l).length ≤ l.length + 9 := by
  have := numB_len (n := (l.length : Int)) (by omega)
  unfold textB
  rw [List.length_append]
  omega
theorem comB_len {salt : Int} {b : List Int} (h1 : salt ≤ 18446744073709551615) (hl : b.length ≤ 1000000) : (comB salt b).length ≤ b.length + 19 := by
  have h := numB_len h1
  have h2 := textB_len hl
  unfold comB
  rw [List.length_cons, List.length_append]
  omega
theorem comB_u8 {salt : Int} {b : List Int} (h1 : salt ≤ 18446744073709551615) (hu : U8 b) (hl : b.length ≤ 1000000) : U8 (comB salt b) := by
  intro x hx
  rcases List.mem_cons.1 hx with rfl | hx
  · exact ⟨by decide, by decide⟩
  · exact (List.mem_append.1 hx).elim (numB_u8 h1 x) (textB_u8 hu hl x)
theorem rtxt_ev (salt : Int) (h0 : 0 ≤ salt) (h1 : salt ≤ 18446744073709551615) (l : List Int) (h : l.length ≤ 1000000) : Ev (fun k => hanaperref07_Text.f k salt l) (comB salt l) := by
  have e1 := numB_len h1
  have e2 := textB_len h
  unfold hanaperref07_Text.f
  refine bindSome rfl (evBind (rnum_ev salt h0 h1) (pos (by simp; omega) (bindSome rfl (evBind (rtext_ev l (by omega)) (pos (by simp; omega) (now ?_))))))
  simp [comB]
theorem rtxt_c (salt : Int) (h0 : 0 ≤ salt) (h1 : salt ≤ 18446744073709551615) (A : Option Addr) (c : Nat) (l : List Int) (w : World) (hr : Rb w A l) (hc : l.length ≤ c) (hl : l.length ≤ 1000000) :
    Calls Try.prog 28 #[.int .u64 salt, .slice A l.length c] w (Makes w (comB salt l)) := by
  obtain ⟨k, h⟩ := (rtxt_ev salt h0 h1 l hl).rounds
  exact hanaperref07_Text.calls k salt A c l _ w hr hc h
set_option maxHeartbeats 4000000 in
set_option maxRecDepth 100000 in
theorem cof_c (salt : Int) (h0 : 0 ≤ salt) (h1 : salt ≤ 18446744073709551615) (A : Option Addr) (c : Nat) (l : List Int) (w : World) (hr : Rb w A l) (hc : l.length ≤ c) (hu : U8 l) (hl : l.length ≤ 100000) :
    Calls Try.prog 22 #[.int .u64 salt, .slice A l.length c] w fun e w' => e = .returned (sumV (shaB (comB salt l))) ∧ Below w.heap.size w w' := by
  have HS := Aside0.mk (And.intro h0 h1)
  have HR := Aside0.mk hr
  have HC := Aside0.mk hc
  have HU := Aside0.mk hu
  have HL := Aside0.mk hl
  have HZ := Aside0.mk (show (w.alloc (.cells Z32 24)).heap[w.heap.size]? = some (.cells Z32 24 (0, 0)) from blk_new _ _)
  have HB := Aside0.mk (below_alloc (Below.refl w.heap.size w) (.cells Z32 24))
  clear hr hu hl hc h0 h1
  go_enter Try.func22, Try.ntmps22
  go_wp2_with (fail)
  refine (num_c salt _ HS.out.1 HS.out.2).mono ?_
  rintro e w1 ⟨v, rfl, ho, hb⟩
  have HZ1 := Aside0.mk (blk_below HZ.out hb)
  have HB1 := Aside0.mk (below_step HB.out hb)
  clear hb HZ HB
  obtain ⟨An, cn, rfl, hl_, hr_⟩ := Ob.reads ho; have HRn := Aside0.mk hr_; have HLn := Aside0.mk hl_; clear ho hl_ hr_
  go_wp2_with (fail)
  refine (text_c A c l w1 (Kd.C_below HR.out HB1.out) HC.out (by have := HL.out; omega)).mono ?_
  rintro e w2 ⟨v, rfl, ho, hb⟩
  have HZ2 := Aside0.mk (blk_below HZ1.out hb)
  have HB2 := Aside0.mk (below_step HB1.out hb)
  have HRn2 := Aside0.mk (Kd.C_below HRn.out hb)
  clear hb
  obtain ⟨At, ct, rfl, hl_, hr_⟩ := Ob.reads ho; have HRt := Aside0.mk hr_; have HLt := Aside0.mk hl_; clear ho hl_ hr_
  go_wp2_with ((with_reducible refine gate_dst (N := 9) rfl ?_); refine lit_rows (N := 9) (e := 22) ?hg ?hd [numB salt, textB l] [.slice An (numB salt).length cn, .slice At (textB l).length ct] (rows2 HRn2.out HLn.out HRt.out HLt.out) ?hr (by simp) ?_; (case hd => rfl); (case hg => rfl); (case hr => first | (go_simp; done) | (go_simp; rfl)); intro A9 w4 hrr hb; have HRR := Aside0.mk hrr; have HZ4 := Aside0.mk (blk_below HZ2.out hb); have HB4 := Aside0.mk (below_step HB2.out hb); clear hb hrr)
  obtain ⟨D, hD⟩ : ∃ D, (nums .u8 (shaB (comB salt l))).toArray = D := ⟨_, rfl⟩
  have HD := Aside0.mk hD
  have hds : D.size = 32 := by rw [← hD]; simp [nums, shaB_len]
  have HIF := Aside0.mk (show (Try.prog.info? 24).map (·.size) = some D.size by rw [hds]; exact info_32)
  have HSZ := Aside0.mk (show Z32.size = D.size by rw [hds]; simp [Z32, nums])
  have HONE := Aside0.mk (show D.all (·.oneCell') = true by rw [← hD]; exact nums_one _ _)
  clear hD hds
  refine (csum_c 1 (by decide) A9 2 [numB salt, textB l] w4 HRR.out (by simp) (by
    intro p hp x hx
    rcases List.mem_cons.1 hp with rfl | hp
    · exact numB_u8 HS.out.2 x hx
    · rw [List.mem_singleton.1 hp] at hx
      exact textB_u8 HU.out (by have := HL.out; omega) x hx) (by
    have h2 := numB_len HS.out.2
    have h3 := textB_len (l := l) (by have := HL.out; omega)
    have h4 := HL.out
    simp only [List.flatten_cons, List.flatten_nil, List.append_nil, List.length_append]
    omega) (by simp)).mono ?_
  rintro e w6 ⟨rfl, hb6⟩
  rw [show sumV (shaB (1 :: [numB salt, textB l].flatten)) = .agg D by rw [← HD.out, comB]; simp]
  have HZ6 := Aside0.mk (blk_below HZ4.out hb6)
  have HB6 := Aside0.mk (below_step HB4.out hb6)
  clear hb6
  go_wp2_with ((with_reducible refine gate_store (t := 24) (p := 4) (v := .tmp 10) rfl ?_); refine wpList_store_row rfl 24 (.tmp 4) (.tmp 10) rfl w.heap.size D rfl rfl 24 Z32 HZ6.out HIF.out HSZ.out HONE.out ?_)
  have HSR := setRow_heap w6 w.heap.size Z32 D _ _ HZ6.out
  refine bodyPost_ret (v := .agg D) (results_cell_row rfl _ _ w.heap.size 24 D (0, 0) _ rfl HSR Try.underlying24 rfl HIF.out) rfl ⟨by rw [← HD.out], below_setRow HB6.out (Nat.le_refl _) D⟩
set_option maxHeartbeats 4000000 in
set_option maxRecDepth 100000 in
theorem rcof_c (salt : Int) (h0 : 0 ≤ salt) (h1 : salt ≤ 18446744073709551615) (A : Option Addr) (c : Nat) (l : List Int) (w : World) (hr : Rb w A l) (hc : l.length ≤ c) (hu : U8 l) (hl : l.length ≤ 100000) :
    Calls Try.prog 23 #[.int .u64 salt, .slice A l.length c] w fun e w' => e = .returned (sumV (shaB (comB salt l))) ∧ Below w.heap.size w w' := by
  have HS := Aside0.mk (And.intro h0 h1)
  have HR := Aside0.mk hr
  have HC := Aside0.mk hc
  have HU := Aside0.mk hu
  have HL := Aside0.mk hl
  have HZ := Aside0.mk (show (w.alloc (.cells Z32 24)).heap[w.heap.size]? = some (.cells Z32 24 (0, 0)) from blk_new _ _)
  have HB := Aside0.mk (below_alloc (Below.refl w.heap.size w) (.cells Z32 24))
  clear hr hu hl hc h0 h1
  go_enter Try.func23, Try.ntmps23
  go_wp2_with (fail)
  refine (rtxt_c salt HS.out.1 HS.out.2 A c l _ (Kd.C_below HR.out HB.out) HC.out (by have := HL.out; omega)).mono ?_
  rintro e w1 ⟨v, rfl, ho, hb⟩
  have HZ1 := Aside0.mk (blk_below HZ.out hb)
  have HB1 := Aside0.mk (below_step HB.out hb)
  clear hb HZ HB
  obtain ⟨An, cn, rfl, hl_, hr_⟩ := Ob.reads ho; have HRn := Aside0.mk hr_; have HLn := Aside0.mk hl_; clear ho hl_ hr_
  obtain ⟨D, hD⟩ : ∃ D, (nums .u8 (shaB (comB salt l))).toArray = D := ⟨_, rfl⟩
  have HD := Aside0.mk hD
  have hds : D.size = 32 := by rw [← hD]; simp [nums, shaB_len]
  have HIF := Aside0.mk (show (Try.prog.info? 24).map (·.size) = some D.size by rw [hds]; exact info_32)
  have HSZ := Aside0.mk (show Z32.size = D.size by rw [hds]; simp [Z32, nums])
  have HONE := Aside0.mk (show D.all (·.oneCell') = true by rw [← hD]; exact nums_one _ _)
  clear hD hds
  go_wp2_with (fail)
  refine (rof_c An cn (comB salt l) w1 HRn.out HLn.out (comB_u8 HS.out.2 HU.out (by have := HL.out; omega)) (by have := comB_len (b := l) HS.out.2 (by have := HL.out; omega); have := HL.out; omega)).mono ?_
  rintro e w6 ⟨rfl, hb6⟩
  rw [show sumV (shaB (comB salt l)) = .agg D by rw [← HD.out]]
  have HZ6 := Aside0.mk (blk_below HZ1.out hb6)
  have HB6 := Aside0.mk (below_step HB1.out hb6)
  clear hb6
  go_wp2_with ((with_reducible refine gate_store (t := 24) (p := 4) (v := .tmp 8) rfl ?_); refine wpList_store_row rfl 24 (.tmp 4) (.tmp 8) rfl w.heap.size D rfl rfl 24 Z32 HZ6.out HIF.out HSZ.out HONE.out ?_)
  have HSR := setRow_heap w6 w.heap.size Z32 D _ _ HZ6.out
  refine bodyPost_ret (v := .agg D) (results_cell_row rfl _ _ w.heap.size 24 D (0, 0) _ rfl HSR Try.underlying24 rfl HIF.out) rfl ⟨by rw [← HD.out], below_setRow HB6.out (Nat.le_refl _) D⟩
end Go.Proofs.Ytbebkogkeepfoaa.Com
/- commit: Check walked; the example of layer 7. -/
namespace Go.Proofs.Ytbebkogkeepfoaa.Com
set_option linter.unusedVariables false
set_option linter.unusedSimpArgs false
open Go.RowKit Go.Proofs.Ytbebkogkeepfoaa.Base Go.Proofs.Ytbebkogkeepfoaa.TlvPlain Go.Proofs.Ytbebkogkeepfoaa.ShaPlain Go.Proofs.Ytbebkogkeepfoaa.Sha Go.Proofs.Ytbebkogkeepfoaa.Lo Go.Proofs.Ytbebkogkeepfoaa.Aid Go.Proofs.YtbebkogkeepfoaaW.PrintWords Go.Proofs.YtbebkogkeepfoaaW.PrintLast Go.Proofs.YtbebkogkeepfoaaW.PrintMore
theorem size_32 {cs : List Value} (h : cs.length = 32) : (Try.prog.info? 24).map (·.size) = some cs.length := by rw [h]; exact info_32
set_option maxHeartbeats 4000000 in
set_option maxRecDepth 100000 in
theorem chk_c (com : List Int) (hcom : com.length = 32) (salt : Int) (h0 : 0 ≤ salt) (h1 : salt ≤ 18446744073709551615) (A : Option Addr) (c : Nat) (l : List Int) (w : World) (hr : Rb w A l) (hc : l.length ≤ c) (hu : U8 l) (hl : l.length ≤ 100000) :
    Calls Try.prog 24 #[.agg (nums .u8 com).toArray, .int .u64 salt, .slice A l.length c] w fun e w' => e = .returned (.bool (decide (shaB (comB salt l) = com))) ∧ Below w.heap.size w w' := by
  have HR := Aside0.mk hr
  have HOF := Aside0.mk (fun W (hW : Rb W A l) => cof_c salt h0 h1 A c l W hW hc hu hl)
  have HEQ := Aside0.mk (run_eq_sum (shaB (comB salt l)) com (shaB_len _) hcom)
  obtain ⟨bb, hbb⟩ : ∃ bb, decide (shaB (comB salt l) = com) = bb := ⟨_, rfl⟩
  obtain ⟨cs, hcs⟩ : ∃ cs, nums .u8 (shaB (comB salt l)) = cs := ⟨_, rfl⟩
  obtain ⟨cc, hcc⟩ : ∃ cc, nums .u8 com = cc := ⟨_, rfl⟩
  have HIC := Aside0.mk (size_32 (cs := cc) (by rw [← hcc]; simp [nums, hcom]))
  simp only [sumV] at HOF HEQ
  rw [hcs] at HOF
  rw [hcs, hcc, hbb] at HEQ
  rw [hcc, hbb]
  clear hr hc hu hl h0 h1 hcom hcs hcc hbb
  go_enter Try.func24, Try.ntmps24
  go_wp2_with (fail)
  have HG := Aside0.mk (show (w.alloc (.cells cc.toArray 24)).heap[w.heap.size]? = some (.cells cc.toArray 24 (0, 0)) from blk_new _ _)
  have HB := Aside0.mk (below_alloc (Below.refl w.heap.size w) (.cells cc.toArray 24))
  obtain ⟨W, hW⟩ : ∃ W, w.alloc (.cells cc.toArray 24) = W := ⟨_, rfl⟩
  obtain ⟨g, hg⟩ : ∃ g, w.heap.size = g := ⟨_, rfl⟩
  rw [hW] at HG HB ⊢
  rw [hg] at HG ⊢
  clear hW hg
  have hguard := guard_32
  have heq := HEQ.out
  have hu24 := Try.underlying24
  refine wp_region_held_drew (S := fun w' => w'.rangeAt g 0 cc) (by kernel_rfl) (range_blk HG.out) (fun hHeld => ?_)
  (refine wpAnyH_take (i := 0) (v := ?_) rfl (by kernel_rfl) (by kernel_rfl) (by kernel_rfl) (fun _ _ _ h => h) (Or.inl ⟨by rfl, ?_⟩) (by assumption) ?_; (case' refine_2 => (intro w hSw; go_simp; try with_reducible rfl)); (try simp only [Act.put, List.getElem_toArray, List.getElem_cons_zero, List.getElem_cons_succ, List.setIfInBounds_toArray, List.set_cons_zero, List.set_cons_succ]))
  (refine wpAnyH_take (i := 1) (v := ?_) rfl (by kernel_rfl) (by kernel_rfl) (by kernel_rfl) (fun _ _ _ h => h) (Or.inl ⟨by rfl, ?_⟩) (by assumption) ?_; (case' refine_2 => (intro w hSw; go_simp; try with_reducible rfl)); (try simp only [Act.put, List.getElem_toArray, List.getElem_cons_zero, List.getElem_cons_succ, List.setIfInBounds_toArray, List.set_cons_zero, List.set_cons_succ]))
  (refine wpAnyH_take (i := 3) rfl (by kernel_rfl) (by kernel_rfl) (by kernel_rfl) (fun _ _ _ h => h) (yieldsIf_load_mid (by rfl) _ _ rfl _ _ rfl _ _ (fun _ h => h) (by assumption) rfl HIC.out) (by assumption) ?_; (try simp only [Act.put, List.getElem_toArray, List.getElem_cons_zero, List.getElem_cons_succ, List.setIfInBounds_toArray, List.set_cons_zero, List.set_cons_succ]))
  (refine wpAnyH_ready (rs := [2]) (by kernel_rfl) (by simp) (AllReadyH.cons rfl (fun K hK => ?_) AllReadyH.nil); go_simp)
  refine (HOF.out _ (Kd.C_below HR.out (below_drew1 HB.out))).mono ?_
  rintro e w3 ⟨rfl, hb⟩
  have HG3 := Aside0.mk (blk_below HG.out (below_drew_of hb))
  have HB3 := Aside0.mk (below_step HB.out (below_drew_of hb))
  clear hb
  (refine Shut.out hK _ _ (range_blk HG3.out) (fun hHeld => ?_); clear hK K; (try simp only [Act.put, List.getElem_toArray, List.getElem_cons_zero, List.getElem_cons_succ, List.setIfInBounds_toArray, List.set_cons_zero, List.set_cons_succ]))
  (refine wpAnyH_take (i := 4) (v := ?_) rfl (by kernel_rfl) (by kernel_rfl) (by kernel_rfl) (fun _ _ _ h => h) (Or.inl ⟨by rfl, ?_⟩) (by assumption) ?_; (case' refine_2 => (intro w hSw; go_simp; try with_reducible rfl)); (try simp only [Act.put, List.getElem_toArray, List.getElem_cons_zero, List.getElem_cons_succ, List.setIfInBounds_toArray, List.set_cons_zero, List.set_cons_succ]))
  (refine wpAnyH_take (i := 5) (v := ?_) rfl (by kernel_rfl) (by kernel_rfl) (by kernel_rfl) (fun _ _ _ h => h) (Or.inl ⟨by rfl, ?_⟩) (by assumption) ?_; (case' refine_2 => (intro w hSw; go_simp; try with_reducible rfl)); (try simp only [Act.put, List.getElem_toArray, List.getElem_cons_zero, List.getElem_cons_succ, List.setIfInBounds_toArray, List.set_cons_zero, List.set_cons_succ]))
  refine wpAnyH_done (by kernel_rfl) ?_ _
  go_wp2_with (fail)
  go_ret
  exact ⟨rfl, HB3.out⟩
theorem chk_own (salt : Int) (h0 : 0 ≤ salt) (h1 : salt ≤ 18446744073709551615) (A : Option Addr) (c : Nat) (l : List Int) (w : World) (hr : Rb w A l) (hc : l.length ≤ c) (hu : U8 l) (hl : l.length ≤ 100000) :
    Calls Try.prog 24 #[sumV (shaB (comB salt l)), .int .u64 salt, .slice A l.length c] w fun e w' => e = .returned (.bool true) ∧ Below w.heap.size w w' := by
  have h := chk_c (shaB (comB salt l)) (shaB_len _) salt h0 h1 A c l w hr hc hu hl
  rw [decide_eq_true rfl] at h
  exact h
theorem comB_nil : comB 0 [] = [1, 0, 0] := by
  have e : be 0 = [] := be_zero
  simp [comB, numB, textB, e]
set_option maxHeartbeats 4000000 in
set_option maxRecDepth 100000 in
theorem live7_c (w : World) : Calls Try.prog 21 #[] w fun e w' => e = .returned (.bool true) ∧ Below w.heap.size w w' := by
  have hguard := guard_32
  have HE := Aside0.mk (run_eq_sum (shaB [1, 0, 0]) (shaB [1, 0, 0]) (shaB_len _) (shaB_len _))
  have HOF := Aside0.mk (fun W => cof_c 0 (by decide) (by decide) none 0 [] W (Kd.C_nil _ W) (by simp) (fun x hx => by simp at hx) (by simp))
  have HCK := Aside0.mk (fun W => chk_own 0 (by decide) (by decide) none 0 [] W (Kd.C_nil _ W) (by simp) (fun x hx => by simp at hx) (by simp))
  rw [comB_nil] at HOF HCK
  obtain ⟨cs, hD⟩ : ∃ cs, nums .u8 (shaB [1, 0, 0]) = cs := ⟨_, rfl⟩
  have HD := Aside0.mk hD
  have heq := HE.out
  simp only [sumV] at HOF HCK
  simp only [sumV, decide_true] at heq
  rw [hD] at heq
  rw [hD] at HOF HCK
  have HB := Aside0.mk (Below.refl w.heap.size w)
  clear HE hD
  go_enter Try.func21, Try.ntmps21
  go_wp2_with (fail)
  refine (HOF.out _).mono ?_
  rintro e w1 ⟨rfl, hb⟩
  have n1_ := Aside0.mk (below_step HB.out hb); clear HB; have HB := n1_; clear n1_
  clear hb
  go_wp2_with ((with_reducible refine gate_dst (N := 2) rfl ?_); (try (refine gate_guard (by rfl) ?_; dsimp only)); refine lit_bytes (N := 2) ?hg ?hd [1, 0, 0] [.int .u8 (1), .int .u8 (0), .int .u8 (0)] rfl ?hr (by simp) ?_; (case hd => rfl); (case hg => rfl); (case hr => first | (go_simp; done) | (go_simp; rfl)); intro v w1 ho hb; have n2_ := Aside0.mk (below_step HB.out hb); clear HB; have HB := n2_; clear n2_ hb; obtain ⟨Aq, cq, rfl, hl_, hr_⟩ := Ob.reads ho; have HRq := Aside0.mk hr_; have HLq := Aside0.mk hl_; clear ho hl_ hr_)
  have HRO := Aside0.mk (fun (A : Option Addr) (c : Nat) (W : World) (hr : Rb W A [1, 0, 0]) (hc : [(1 : Int), 0, 0].length ≤ c) => rof_c A c [1, 0, 0] W hr hc (by simp) (by simp))
  simp only [sumV] at HRO
  rw [HD.out] at HRO
  refine (HRO.out Aq cq w1 HRq.out HLq.out).mono ?_
  rintro e w3 ⟨rfl, hb⟩
  have n1_ := Aside0.mk (below_step HB.out hb); clear HB; have HB := n1_; clear n1_
  clear hb
  go_wp2_with ((with_reducible refine gate_dst (N := 6) rfl ?_); (try (refine gate_guard (by rfl) ?_; dsimp only)); refine lit_bytes (N := 6) ?hg ?hd [1, 0, 0] [.int .u8 (1), .int .u8 (0), .int .u8 (0)] rfl ?hr (by simp) ?_; (case hd => rfl); (case hg => rfl); (case hr => first | (go_simp; done) | (go_simp; rfl)); intro v w1 ho hb; have n2_ := Aside0.mk (below_step HB.out hb); clear HB; have HB := n2_; clear n2_ hb; obtain ⟨Ar, cr, rfl, hl_, hr_⟩ := Ob.reads ho; have HRr := Aside0.mk hr_; have HLr := Aside0.mk hl_; clear ho hl_ hr_)
  refine (HRO.out Ar cr _ HRr.out HLr.out).mono ?_
  rintro e w5 ⟨rfl, hb⟩
  have n1_ := Aside0.mk (below_step HB.out hb); clear HB; have HB := n1_; clear n1_
  clear hb
  go_wp2_with (fail)
  refine (HCK.out _).mono ?_
  rintro e w6 ⟨rfl, hb⟩
  have n1_ := Aside0.mk (below_step HB.out hb); clear HB; have HB := n1_; clear n1_
  clear hb
  go_wp2_with (fail)
  go_ret
  exact ⟨rfl, HB.out⟩
end Go.Proofs.Ytbebkogkeepfoaa.Com
/- What an array argument reads as. -/
namespace Go.Proofs.Ytbebkogkeepfoaa.Open
open Go.Proofs.Ytbebkogkeepfoaa.Base Go.RowKit Go.Proofs.YtbebkogkeepfoaaW.PrintWords Go.Proofs.YtbebkogkeepfoaaW.PrintLast Go.Proofs.YtbebkogkeepfoaaW.PrintMore
theorem opensN_array {P : Program} {n N : Nat} {t e : TypeId} {α : Type} {d : Kd α} {ok : α → Prop} (hs : 0 < d.sz) (ht : P.underlying t = some (.array N e)) (hc : P.cellsOf t = N * d.sz) (he : P.cellsOf e = d.sz) (hd : OpensN P n e d ok) : OpensN P (n + 1) t (Kd.arr N d hs) (fun xs => ∀ x ∈ xs, ok x) := by
  intro H enc w base held cs x h
  unfold DataW.trod at h
  rw [ht] at h
  have h' : (if cs.length = P.cellsOf t then ((List.range N).mapM fun i => DataW.trod enc P w base (fun _ => true) held n e ((cs.drop (i * P.cellsOf e)).take (P.cellsOf e))).map fun xs => (DataW.agg (xs.map (·.1)), xs.flatMap (·.2)) else none) = some x := by
    revert h
    split <;> simp_all
  split at h'
  · next hl =>
    obtain ⟨ys, h1, _⟩ := Option.map_eq_some_iff.1 h'
    obtain ⟨xs, hxl, hxs⟩ := choose_list (α := α) (p := fun i v => d.K w v ((cs.drop (i * d.sz)).take d.sz) ∧ ok v) N (fun i hi => by
      have h2 := mapM_some_get h1 i i (by simp [hi])
      have hlen : ys.length = N := by have := mapM_some_length h1; simpa using this
      rw [List.getElem?_eq_getElem (show i < ys.length by omega), he] at h2
      exact hd _ _ _ _ _ _ _ h2)
    refine ⟨xs, ⟨hxl, by rw [hl, hc, hxl], fun j p hj => (hxs j p hj).1⟩, fun y hy => ?_⟩
    obtain ⟨i, hi, rfl⟩ := List.mem_iff_getElem.1 hy
    exact (hxs i _ (List.getElem?_eq_getElem hi)).2
  · cases h'
theorem opens_array {P : Program} {N : Nat} {t e : TypeId} {α : Type} {d : Kd α} {ok : α → Prop} (hs : 0 < d.sz) (ht : P.underlying t = some (.array N e)) (hc : P.cellsOf t = N * d.sz) (he : P.cellsOf e = d.sz) (hd : Opens P e d ok) : Opens P t (Kd.arr N d hs) (fun xs => ∀ x ∈ xs, ok x) := by
  intro n
  cases n with
  | zero => intro H enc w base held cs x h; simp [DataW.trod] at h
  | succ n => exact opensN_array hs ht hc he (hd n)
theorem okWide_array {P : Program} {w : World} {r : Reach} {base N : Nat} {t e : TypeId} {v : Value} (ht : P.underlying t = some (.array N e)) (h : Value.okWide P w r base t v) : ∃ cs, v = .agg cs ∧ cs.size = P.cellsOf t := by
  revert h
  unfold Value.okWide
  rw [ht]
  cases v <;> simp_all
/-- The cells of an array of numbers. -/
theorem nums_arr {w : World} {k : IntKind} {N : Nat} {hs : 0 < (Kd.int k).sz} {xs : List Int} {cs : List Value} (h : (Kd.arr N (Kd.int k) hs).K w xs cs) : cs = nums k xs := by
  apply List.ext_getElem?
  intro i
  have hl : cs.length = xs.length := by rw [h.2.1]; show _ * 1 = _; omega
  cases hx : xs[i]? with
  | none =>
    rw [List.getElem?_eq_none_iff] at hx
    rw [List.getElem?_eq_none_iff.2 (by omega), nums, List.getElem?_map, List.getElem?_eq_none_iff.2 hx]
    rfl
  | some y =>
    have hi := (List.getElem?_eq_some_iff.1 hx).1
    have h2 := h.2.2 i y hx
    rw [nums, List.getElem?_map, hx]
    have h3 : (cs.drop (i * (Kd.int k).sz)).take (Kd.int k).sz = [.int k y] := h2
    have h4 : ((cs.drop (i * (Kd.int k).sz)).take (Kd.int k).sz)[0]? = cs[i]? := by
      rw [List.getElem?_take, if_pos hs, List.getElem?_drop, show i * (Kd.int k).sz + 0 = i by show i * 1 + 0 = i; omega]
    rw [← h4, h3]
    rfl
end Go.Proofs.Ytbebkogkeepfoaa.Open
/- CommitOf: the law's walk. -/
namespace Go.Proofs.Ytbebkogkeepfoaa.Com
set_option linter.unusedVariables false
set_option linter.unusedSimpArgs false
open Go.RowKit Go.Proofs.Ytbebkogkeepfoaa.Base Go.Proofs.Ytbebkogkeepfoaa.TlvPlain Go.Proofs.Ytbebkogkeepfoaa.ShaPlain Go.Proofs.Ytbebkogkeepfoaa.Sha Go.Proofs.Ytbebkogkeepfoaa.Lo Go.Proofs.Ytbebkogkeepfoaa.Aid Go.Proofs.YtbebkogkeepfoaaW.PrintWords Go.Proofs.YtbebkogkeepfoaaW.PrintLast Go.Proofs.YtbebkogkeepfoaaW.PrintMore
set_option maxHeartbeats 8000000 in
set_option maxRecDepth 100000 in
theorem comOf_walk (w : World) (salt : Int) (h0 : 0 ≤ salt) (h1 : salt ≤ 18446744073709551615) (A : Option Addr) (c : Nat) (l : List Int) (hr : Rb w A l) (hc : l.length ≤ c) (hu : U8 l) (com : List Int) (hcom : com.length = 32) :
    Calls Try.prog 6 #[.int .u64 salt, .slice A l.length c, .agg (nums .u8 com).toArray] w fun e w' => e = .returned (.bool true) ∧ Below w.heap.size w w' := by
  by_cases hl : 2000 < l.length
  · have hd : decide ((2000 : Int) < (l.length : Int)) = true := decide_eq_true (by omega)
    obtain ⟨cc, hcc⟩ : ∃ cc, nums .u8 com = cc := ⟨_, rfl⟩
    rw [hcc]
    clear hr hc hu h0 h1 hcom hcc hl
    have HB := Aside0.mk (below_alloc (Below.refl w.heap.size w) (.cells cc.toArray 24))
    go_enter Try.func6, Try.ntmps6
    go_wp2_with (fail)
    refine (live7_c _).mono ?_
    rintro e w' ⟨rfl, hb⟩
    have n1_ := Aside0.mk (below_step HB.out hb); clear HB; have HB := n1_; clear n1_
    clear hb
    go_wp2_with (fail)
    go_ret
    exact ⟨rfl, HB.out⟩
  · have hd : decide ((2000 : Int) < (l.length : Int)) = false := decide_eq_false (by omega)
    have hl' : l.length ≤ 100000 := by omega
    have HR := Aside0.mk hr
    obtain ⟨cs, hcs⟩ : ∃ cs, nums .u8 (shaB (comB salt l)) = cs := ⟨_, rfl⟩
    obtain ⟨cc, hcc⟩ : ∃ cc, nums .u8 com = cc := ⟨_, rfl⟩
    obtain ⟨bb, hbb⟩ : ∃ bb, decide (shaB (comB salt l) = com) = bb := ⟨_, rfl⟩
    have hbb2 : decide (com = shaB (comB salt l)) = bb := by rw [← hbb]; exact decide_eq_decide.2 ⟨Eq.symm, Eq.symm⟩
    have hlen : cs.length = 32 := by rw [← hcs]; simp [nums, shaB_len]
    have HIS := Aside0.mk (size_32 hlen)
    have HIC := Aside0.mk (size_32 (cs := cc) (by rw [← hcc]; simp [nums, hcom]))
    have HIA := Aside0.mk (show (Try.prog.info? 24).map (·.size) = some cs.toArray.size by simp only [List.size_toArray]; exact HIS.out)
    have HSZ := Aside0.mk (show Z32.size = cs.toArray.size by simp [Z32, nums, hlen])
    have HONE := Aside0.mk (show cs.toArray.all (·.oneCell') = true by rw [← hcs]; exact nums_one _ _)
    have HOF := Aside0.mk (fun W (hW : Rb W A l) => cof_c salt h0 h1 A c l W hW hc hu hl')
    have HROF := Aside0.mk (fun W (hW : Rb W A l) => rcof_c salt h0 h1 A c l W hW hc hu hl')
    have HCO := Aside0.mk (fun W (hW : Rb W A l) => chk_own salt h0 h1 A c l W hW hc hu hl')
    have HCK := Aside0.mk (fun W (hW : Rb W A l) => chk_c com hcom salt h0 h1 A c l W hW hc hu hl')
    have HE1 := Aside0.mk (run_eq_sum (shaB (comB salt l)) (shaB (comB salt l)) (shaB_len _) (shaB_len _))
    have HE2 := Aside0.mk (run_eq_sum com (shaB (comB salt l)) hcom (shaB_len _))
    simp only [sumV, decide_true] at HOF HROF HCO HCK HE1 HE2
    rw [hcs] at HOF HROF HCO HE1 HE2
    rw [hcc] at HCK HE2
    rw [hbb] at HCK
    rw [hbb2] at HE2
    rw [hcc]
    clear hr hc hu hl hl' h0 h1 hcom hcs hcc hbb hbb2 hlen
    go_enter Try.func6, Try.ntmps6
    have HG0 := Aside0.mk (show (w.alloc (.cells cc.toArray 24)).heap[w.heap.size]? = some (.cells cc.toArray 24 (0, 0)) from blk_new _ _)
    have HB0 := Aside0.mk (below_alloc (Below.refl w.heap.size w) (.cells cc.toArray 24))
    go_wp2_with (fail)
    refine (HOF.out _ (Kd.C_below HR.out HB0.out)).mono ?_
    rintro e w1 ⟨rfl, hb⟩
    have HG1 := Aside0.mk (blk_below HG0.out hb)
    have HB1 := Aside0.mk (below_step HB0.out hb)
    clear hb
    go_wp2_with ((with_reducible refine gate_store (t := 24) (p := 7) (v := .tmp 14) rfl ?_); refine wpList_store_row rfl 24 (.tmp 7) (.tmp 14) rfl w1.heap.size cs.toArray rfl rfl 24 Z32 (by exact blk_new _ _) HIA.out HSZ.out HONE.out ?_; rw [World.setRow_alloc_new])
    obtain ⟨g, hg⟩ : ∃ g, w1.heap.size = g := ⟨_, rfl⟩
    obtain ⟨q, hq⟩ : ∃ q, w.heap.size = q := ⟨_, rfl⟩
    obtain ⟨W, hW⟩ : ∃ W, w1.alloc (.cells cs.toArray 24) = W := ⟨_, rfl⟩
    have HGS := Aside0.mk (show W.heap[g]? = some (.cells cs.toArray 24 (0, 0)) by rw [← hW, ← hg]; exact blk_new _ _)
    have HGC := Aside0.mk (show W.heap[q]? = some (.cells cc.toArray 24 (0, 0)) by rw [← hW, ← hq]; exact blk_alloc HG1.out _)
    have HB2 := Aside0.mk (show Below w.heap.size w W by rw [← hW]; exact below_alloc HB1.out _)
    rw [hW, hg, hq]
    clear hW hg hq HB1 HB0 HG0 HG1 HSZ HIA HONE
    have hguard := guard_32
    have heq1 := HE1.out
    have heq2 := HE2.out
    have hu24 := Try.underlying24
    go_wp2_with (fail)
    refine wp_region_held_drew (S := fun w' => w'.rangeAt g 0 cs ∧ w'.rangeAt q 0 cc) (by kernel_rfl) (And.intro (range_blk HGS.out) (range_blk HGC.out)) (fun hHeld => ?_)
    (refine wpAnyH_take (i := 0) rfl (by kernel_rfl) (by kernel_rfl) (by kernel_rfl) (fun _ _ _ h => h) (yieldsIf_load_mid (by rfl) _ _ rfl _ _ rfl _ _ (fun _ h => h.1) (by assumption) rfl HIS.out) (by assumption) ?_; (try simp only [Act.put, List.getElem_toArray, List.getElem_cons_zero, List.getElem_cons_succ, List.setIfInBounds_toArray, List.set_cons_zero, List.set_cons_succ]))
    (refine wpAnyH_take (i := 1) (v := ?_) rfl (by kernel_rfl) (by kernel_rfl) (by kernel_rfl) (fun _ _ _ h => h) (Or.inl ⟨by rfl, ?_⟩) (by assumption) ?_; (case' refine_2 => (intro w hSw; go_simp; try with_reducible rfl)); (try simp only [Act.put, List.getElem_toArray, List.getElem_cons_zero, List.getElem_cons_succ, List.setIfInBounds_toArray, List.set_cons_zero, List.set_cons_succ]))
    (refine wpAnyH_take (i := 2) (v := ?_) rfl (by kernel_rfl) (by kernel_rfl) (by kernel_rfl) (fun _ _ _ h => h) (Or.inl ⟨by rfl, ?_⟩) (by assumption) ?_; (case' refine_2 => (intro w hSw; go_simp; try with_reducible rfl)); (try simp only [Act.put, List.getElem_toArray, List.getElem_cons_zero, List.getElem_cons_succ, List.setIfInBounds_toArray, List.set_cons_zero, List.set_cons_succ]))
    (refine wpAnyH_ready (rs := [3]) (by kernel_rfl) (by simp) (AllReadyH.cons rfl (fun K hK => ?_) AllReadyH.nil); go_simp)
    refine (HROF.out _ (Kd.C_below HR.out (below_drew1 HB2.out))).mono ?_
    rintro e w3 ⟨rfl, hb⟩
    have HGS3 := Aside0.mk (blk_below HGS.out (below_drew_of hb))
    have HGC3 := Aside0.mk (blk_below HGC.out (below_drew_of hb))
    have HB3 := Aside0.mk (below_step HB2.out (below_drew_of hb))
    clear hb
    (refine Shut.out hK _ _ (And.intro (range_blk HGS3.out) (range_blk HGC3.out)) (fun hHeld => ?_); clear hK K; (try simp only [Act.put, List.getElem_toArray, List.getElem_cons_zero, List.getElem_cons_succ, List.setIfInBounds_toArray, List.set_cons_zero, List.set_cons_succ]))
    (refine wpAnyH_take (i := 4) (v := ?_) rfl (by kernel_rfl) (by kernel_rfl) (by kernel_rfl) (fun _ _ _ h => h) (Or.inl ⟨by rfl, ?_⟩) (by assumption) ?_; (case' refine_2 => (intro w hSw; go_simp; try with_reducible rfl)); (try simp only [Act.put, List.getElem_toArray, List.getElem_cons_zero, List.getElem_cons_succ, List.setIfInBounds_toArray, List.set_cons_zero, List.set_cons_succ]))
    (refine wpAnyH_take (i := 5) (v := ?_) rfl (by kernel_rfl) (by kernel_rfl) (by kernel_rfl) (fun _ _ _ h => h) (Or.inl ⟨by rfl, ?_⟩) (by assumption) ?_; (case' refine_2 => (intro w hSw; go_simp; try with_reducible rfl)); (try simp only [Act.put, List.getElem_toArray, List.getElem_cons_zero, List.getElem_cons_succ, List.setIfInBounds_toArray, List.set_cons_zero, List.set_cons_succ]))
    (refine wpAnyH_take (i := 6) rfl (by kernel_rfl) (by kernel_rfl) (by kernel_rfl) (fun _ _ _ h => h) (yieldsIf_load_mid (by rfl) _ _ rfl _ _ rfl _ _ (fun _ h => h.1) (by assumption) rfl HIS.out) (by assumption) ?_; (try simp only [Act.put, List.getElem_toArray, List.getElem_cons_zero, List.getElem_cons_succ, List.setIfInBounds_toArray, List.set_cons_zero, List.set_cons_succ]))
    (refine wpAnyH_take (i := 7) (v := ?_) rfl (by kernel_rfl) (by kernel_rfl) (by kernel_rfl) (fun _ _ _ h => h) (Or.inl ⟨by rfl, ?_⟩) (by assumption) ?_; (case' refine_2 => (intro w hSw; go_simp; try with_reducible rfl)); (try simp only [Act.put, List.getElem_toArray, List.getElem_cons_zero, List.getElem_cons_succ, List.setIfInBounds_toArray, List.set_cons_zero, List.set_cons_succ]))
    (refine wpAnyH_take (i := 8) (v := ?_) rfl (by kernel_rfl) (by kernel_rfl) (by kernel_rfl) (fun _ _ _ h => h) (Or.inl ⟨by rfl, ?_⟩) (by assumption) ?_; (case' refine_2 => (intro w hSw; go_simp; try with_reducible rfl)); (try simp only [Act.put, List.getElem_toArray, List.getElem_cons_zero, List.getElem_cons_succ, List.setIfInBounds_toArray, List.set_cons_zero, List.set_cons_succ]))
    (refine wpAnyH_ready (rs := [9]) (by kernel_rfl) (by simp) (AllReadyH.cons rfl (fun K hK => ?_) AllReadyH.nil); go_simp)
    refine (HCO.out _ (Kd.C_below HR.out HB3.out)).mono ?_
    rintro e w4 ⟨rfl, hb⟩
    have HGS4 := Aside0.mk (blk_below HGS3.out hb)
    have HGC4 := Aside0.mk (blk_below HGC3.out hb)
    have HB4 := Aside0.mk (below_step HB3.out hb)
    clear hb
    (refine Shut.out hK _ _ (And.intro (range_blk HGS4.out) (range_blk HGC4.out)) (fun hHeld => ?_); clear hK K; (try simp only [Act.put, List.getElem_toArray, List.getElem_cons_zero, List.getElem_cons_succ, List.setIfInBounds_toArray, List.set_cons_zero, List.set_cons_succ]))
    (refine wpAnyH_take (i := 10) (v := ?_) rfl (by kernel_rfl) (by kernel_rfl) (by kernel_rfl) (fun _ _ _ h => h) (Or.inl ⟨by rfl, ?_⟩) (by assumption) ?_; (case' refine_2 => (intro w hSw; go_simp; try with_reducible rfl)); (try simp only [Act.put, List.getElem_toArray, List.getElem_cons_zero, List.getElem_cons_succ, List.setIfInBounds_toArray, List.set_cons_zero, List.set_cons_succ]))
    (refine wpAnyH_take (i := 11) (v := ?_) rfl (by kernel_rfl) (by kernel_rfl) (by kernel_rfl) (fun _ _ _ h => h) (Or.inl ⟨by rfl, ?_⟩) (by assumption) ?_; (case' refine_2 => (intro w hSw; go_simp; try with_reducible rfl)); (try simp only [Act.put, List.getElem_toArray, List.getElem_cons_zero, List.getElem_cons_succ, List.setIfInBounds_toArray, List.set_cons_zero, List.set_cons_succ]))
    (refine wpAnyH_take (i := 12) rfl (by kernel_rfl) (by kernel_rfl) (by kernel_rfl) (fun _ _ _ h => h) (yieldsIf_load_mid (by rfl) _ _ rfl _ _ rfl _ _ (fun _ h => h.2) (by assumption) rfl HIC.out) (by assumption) ?_; (try simp only [Act.put, List.getElem_toArray, List.getElem_cons_zero, List.getElem_cons_succ, List.setIfInBounds_toArray, List.set_cons_zero, List.set_cons_succ]))
    (refine wpAnyH_take (i := 13) (v := ?_) rfl (by kernel_rfl) (by kernel_rfl) (by kernel_rfl) (fun _ _ _ h => h) (Or.inl ⟨by rfl, ?_⟩) (by assumption) ?_; (case' refine_2 => (intro w hSw; go_simp; try with_reducible rfl)); (try simp only [Act.put, List.getElem_toArray, List.getElem_cons_zero, List.getElem_cons_succ, List.setIfInBounds_toArray, List.set_cons_zero, List.set_cons_succ]))
    (refine wpAnyH_take (i := 14) (v := ?_) rfl (by kernel_rfl) (by kernel_rfl) (by kernel_rfl) (fun _ _ _ h => h) (Or.inl ⟨by rfl, ?_⟩) (by assumption) ?_; (case' refine_2 => (intro w hSw; go_simp; try with_reducible rfl)); (try simp only [Act.put, List.getElem_toArray, List.getElem_cons_zero, List.getElem_cons_succ, List.setIfInBounds_toArray, List.set_cons_zero, List.set_cons_succ]))
    (refine wpAnyH_take (i := 16) rfl (by kernel_rfl) (by kernel_rfl) (by kernel_rfl) (fun _ _ _ h => h) (yieldsIf_load_mid (by rfl) _ _ rfl _ _ rfl _ _ (fun _ h => h.2) (by assumption) rfl HIC.out) (by assumption) ?_; (try simp only [Act.put, List.getElem_toArray, List.getElem_cons_zero, List.getElem_cons_succ, List.setIfInBounds_toArray, List.set_cons_zero, List.set_cons_succ]))
    (refine wpAnyH_take (i := 17) rfl (by kernel_rfl) (by kernel_rfl) (by kernel_rfl) (fun _ _ _ h => h) (yieldsIf_load_mid (by rfl) _ _ rfl _ _ rfl _ _ (fun _ h => h.1) (by assumption) rfl HIS.out) (by assumption) ?_; (try simp only [Act.put, List.getElem_toArray, List.getElem_cons_zero, List.getElem_cons_succ, List.setIfInBounds_toArray, List.set_cons_zero, List.set_cons_succ]))
    (refine wpAnyH_take (i := 18) (v := ?_) rfl (by kernel_rfl) (by kernel_rfl) (by kernel_rfl) (fun _ _ _ h => h) (Or.inl ⟨by rfl, ?_⟩) (by assumption) ?_; (case' refine_2 => (intro w hSw; go_simp; try with_reducible rfl)); (try simp only [Act.put, List.getElem_toArray, List.getElem_cons_zero, List.getElem_cons_succ, List.setIfInBounds_toArray, List.set_cons_zero, List.set_cons_succ]))
    (refine wpAnyH_ready (rs := [15]) (by kernel_rfl) (by simp) (AllReadyH.cons rfl (fun K hK => ?_) AllReadyH.nil); go_simp)
    refine (HCK.out _ (Kd.C_below HR.out HB4.out)).mono ?_
    rintro e w5 ⟨rfl, hb⟩
    have HGS5 := Aside0.mk (blk_below HGS4.out hb)
    have HGC5 := Aside0.mk (blk_below HGC4.out hb)
    have HB5 := Aside0.mk (below_step HB4.out hb)
    clear hb
    (refine Shut.out hK _ _ (And.intro (range_blk HGS5.out) (range_blk HGC5.out)) (fun hHeld => ?_); clear hK K; (try simp only [Act.put, List.getElem_toArray, List.getElem_cons_zero, List.getElem_cons_succ, List.setIfInBounds_toArray, List.set_cons_zero, List.set_cons_succ]))
    (refine wpAnyH_take (i := 19) (v := ?_) rfl (by kernel_rfl) (by kernel_rfl) (by kernel_rfl) (fun _ _ _ h => h) (Or.inl ⟨by rfl, ?_⟩) (by assumption) ?_; (case' refine_2 => (intro w hSw; go_simp; try with_reducible rfl)); (try simp only [Act.put, List.getElem_toArray, List.getElem_cons_zero, List.getElem_cons_succ, List.setIfInBounds_toArray, List.set_cons_zero, List.set_cons_succ]))
    (refine wpAnyH_take (i := 20) (v := ?_) rfl (by kernel_rfl) (by kernel_rfl) (by kernel_rfl) (fun _ _ _ h => h) (Or.inl ⟨by rfl, ?_⟩) (by assumption) ?_; (case' refine_2 => (intro w hSw; go_simp; try with_reducible rfl)); (try simp only [Act.put, List.getElem_toArray, List.getElem_cons_zero, List.getElem_cons_succ, List.setIfInBounds_toArray, List.set_cons_zero, List.set_cons_succ]))
    (refine wpAnyH_take (i := 21) (v := ?_) rfl (by kernel_rfl) (by kernel_rfl) (by kernel_rfl) (fun _ _ _ h => h) (Or.inl ⟨by rfl, ?_⟩) (by assumption) ?_; (case' refine_2 => (intro w hSw; go_simp; try with_reducible rfl)); (try simp only [Act.put, List.getElem_toArray, List.getElem_cons_zero, List.getElem_cons_succ, List.setIfInBounds_toArray, List.set_cons_zero, List.set_cons_succ]))
    (refine wpAnyH_ready (rs := [22]) (by kernel_rfl) (by simp) (AllReadyH.cons rfl (fun K hK => ?_) AllReadyH.nil); go_simp)
    refine (live7_c _).mono ?_
    rintro e w6 ⟨rfl, hb⟩
    have HGS6 := Aside0.mk (blk_below HGS5.out hb)
    have HGC6 := Aside0.mk (blk_below HGC5.out hb)
    have HB6 := Aside0.mk (below_step HB5.out hb)
    clear hb
    (refine Shut.out hK _ _ (And.intro (range_blk HGS6.out) (range_blk HGC6.out)) (fun hHeld => ?_); clear hK K; (try simp only [Act.put, List.getElem_toArray, List.getElem_cons_zero, List.getElem_cons_succ, List.setIfInBounds_toArray, List.set_cons_zero, List.set_cons_succ]))
    (refine wpAnyH_take (i := 23) (v := ?_) rfl (by kernel_rfl) (by kernel_rfl) (by kernel_rfl) (fun _ _ _ h => h) (Or.inl ⟨by rfl, ?_⟩) (by assumption) ?_; (case' refine_2 => (intro w hSw; go_simp; try with_reducible rfl)); (try simp only [Act.put, List.getElem_toArray, List.getElem_cons_zero, List.getElem_cons_succ, List.setIfInBounds_toArray, List.set_cons_zero, List.set_cons_succ]))
    (refine wpAnyH_take (i := 24) (v := ?_) rfl (by kernel_rfl) (by kernel_rfl) (by kernel_rfl) (fun _ _ _ h => h) (Or.inl ⟨by rfl, ?_⟩) (by assumption) ?_; (case' refine_2 => (intro w hSw; go_simp; try with_reducible rfl)); (try simp only [Act.put, List.getElem_toArray, List.getElem_cons_zero, List.getElem_cons_succ, List.setIfInBounds_toArray, List.set_cons_zero, List.set_cons_succ]))
    refine wpAnyH_done (by kernel_rfl) ?_ _
    go_wp2_with (fail)
    go_ret
    exact ⟨rfl, HB6.out⟩
theorem u64_wf {n : Int} (h : (Lit.int .u64 n).wf = true) : 0 ≤ n ∧ n ≤ 18446744073709551615 := by
  simp only [Lit.wf, IntKind.min, IntKind.max, IntKind.signed, IntKind.bits, Bool.and_eq_true] at h
  simp at h
  omega
theorem arr_sum {w : World} {com : List Int} {cs : Array Value} (hk : (Kd.arr 32 (Kd.int .u8) (by decide)).K w com cs.toList) : cs = (nums .u8 com).toArray ∧ com.length = 32 := ⟨by rw [← Open.nums_arr hk], hk.1⟩
theorem comOfWalk (w : World) (salt : Int) (ws : (Lit.int .u64 salt).wf = true) (A : Option Addr) (c : Nat) (b : List Int) (hr : Kd.C (Kd.int .u8) w A b.length b) (hc : b.length ≤ c) (ok : ∀ x ∈ b, (Lit.int .u8 x).wf = true)
    (com : List Int) (cs : Array Value) (hk : (Kd.arr 32 (Kd.int .u8) (by decide)).K w com cs.toList) (_ : ∀ x ∈ com, (Lit.int .u8 x).wf = true) :
    Calls Try.prog 6 #[.int .u64 salt, .slice A b.length c, .agg cs] w fun e w' => e = .returned (.bool true) ∧ Below w.heap.size w w' := by
  obtain ⟨rfl, hl⟩ := arr_sum hk
  exact comOf_walk w salt (u64_wf ws).1 (u64_wf ws).2 A c b hr hc (fun x hx => byte_wf (ok x hx)) com hl
end Go.Proofs.Ytbebkogkeepfoaa.Com
/- commit: Link walked. -/
namespace Go.Proofs.Ytbebkogkeepfoaa.Com
set_option linter.unusedVariables false
set_option linter.unusedSimpArgs false
open Go.RowKit Go.Proofs.Ytbebkogkeepfoaa.Base Go.Proofs.Ytbebkogkeepfoaa.TlvPlain Go.Proofs.Ytbebkogkeepfoaa.ShaPlain Go.Proofs.Ytbebkogkeepfoaa.Sha Go.Proofs.Ytbebkogkeepfoaa.Lo Go.Proofs.Ytbebkogkeepfoaa.Aid Go.Proofs.YtbebkogkeepfoaaW.PrintWords Go.Proofs.YtbebkogkeepfoaaW.PrintLast Go.Proofs.YtbebkogkeepfoaaW.PrintMore
/-- What is summed for a link. -/
def linkB (seq : Int) (p c : List Int) : List Int := 2 :: (intB seq ++ (p ++ c))
theorem rb_blk {w : World} {g T : Nat} {xs : List Int} (h : w.heap[g]? = some (.cells (nums .u8 xs).toArray T (0, 0))) (hm : xs.length ≤ 9223372036854775807) : Rb w (some ⟨g, 0, none⟩) xs := by
  refine Kd.C_of_reads (d := (0 : Int)) ⟨rfl, hm, fun _ => ⟨_, rfl, fun j hj => ?_⟩⟩
  rw [add_plain, blk_cell h j]
  simp [nums, List.getElem?_eq_getElem hj, rd, List.getD_eq_getElem?_getD]
set_option maxHeartbeats 4000000 in
set_option maxRecDepth 100000 in
theorem link_c (seq : Int) (p q : List Int) (hp : p.length = 32) (hq : q.length = 32) (hpu : U8 p) (hqu : U8 q) (w : World) :
    Calls Try.prog 25 #[.int .i64 seq, .agg (nums .u8 p).toArray, .agg (nums .u8 q).toArray] w fun e w' => e = .returned (sumV (shaB (linkB seq p q))) ∧ Below w.heap.size w w' := by
  obtain ⟨P, hP⟩ : ∃ P, (nums .u8 p).toArray = P := ⟨_, rfl⟩
  obtain ⟨C, hC⟩ : ∃ C, (nums .u8 q).toArray = C := ⟨_, rfl⟩
  have HP := Aside0.mk hP
  have HC := Aside0.mk hC
  have HLP := Aside0.mk (And.intro hp hq)
  have HU := Aside0.mk (And.intro hpu hqu)
  rw [hP, hC]
  clear hP hC hp hq hpu hqu
  go_enter Try.func25, Try.ntmps25
  go_wp2_with (fail)
  have e1 : (w.alloc (.cells P 24)).heap.size = w.heap.size + 1 := by simp
  have e2 : ((w.alloc (.cells P 24)).alloc (.cells C 24)).heap.size = w.heap.size + 1 + 1 := by simp
  have HG := Aside0.mk (show (((w.alloc (.cells P 24)).alloc (.cells C 24)).alloc (.cells Z32 24)).heap[w.heap.size]? = some (.cells P 24 (0, 0)) from blk_alloc (blk_alloc (blk_new _ _) _) _)
  have HH := Aside0.mk (show (((w.alloc (.cells P 24)).alloc (.cells C 24)).alloc (.cells Z32 24)).heap[w.heap.size + 1]? = some (.cells C 24 (0, 0)) from blk_alloc (second_new' _ _ _) _)
  have HZ := Aside0.mk (show (((w.alloc (.cells P 24)).alloc (.cells C 24)).alloc (.cells Z32 24)).heap[w.heap.size + 1 + 1]? = some (.cells Z32 24 (0, 0)) from third_new _ _ _ _)
  have HB := Aside0.mk (show Below w.heap.size w (((w.alloc (.cells P 24)).alloc (.cells C 24)).alloc (.cells Z32 24)) from below_alloc (below_alloc (below_alloc (Below.refl _ _) _) _) _)
  obtain ⟨W, hW⟩ : ∃ W, ((w.alloc (.cells P 24)).alloc (.cells C 24)).alloc (.cells Z32 24) = W := ⟨_, rfl⟩
  rw [hW] at HG HH HZ HB
  rw [show ((w.alloc (.cells P 24)).alloc (.cells C 24)).alloc (.cells #[.int .u8 0, .int .u8 0, .int .u8 0, .int .u8 0, .int .u8 0, .int .u8 0, .int .u8 0, .int .u8 0, .int .u8 0, .int .u8 0, .int .u8 0, .int .u8 0, .int .u8 0, .int .u8 0, .int .u8 0, .int .u8 0, .int .u8 0, .int .u8 0, .int .u8 0, .int .u8 0, .int .u8 0, .int .u8 0, .int .u8 0, .int .u8 0, .int .u8 0, .int .u8 0, .int .u8 0, .int .u8 0, .int .u8 0, .int .u8 0, .int .u8 0, .int .u8 0] 24) = W from hW]
  clear hW e1 e2
  obtain ⟨g0, hg0⟩ : ∃ g, w.heap.size = g := ⟨_, rfl⟩
  have HG0 := Aside0.mk hg0
  rw [hg0] at HG HH HZ ⊢
  clear hg0
  refine wp_region_held_drew (S := fun _ => True) (by kernel_rfl) trivial (fun hHeld => ?_)
  (refine wpAnyH_take (i := 0) (v := ?_) rfl (by kernel_rfl) (by kernel_rfl) (by kernel_rfl) (fun _ _ _ h => h) (Or.inl ⟨by rfl, ?_⟩) (by assumption) ?_; (case' refine_2 => (intro w hSw; go_simp; try with_reducible rfl)); (try simp only [Act.put, List.getElem_toArray, List.getElem_cons_zero, List.getElem_cons_succ, List.setIfInBounds_toArray, List.set_cons_zero, List.set_cons_succ]))
  (refine wpAnyH_take (i := 2) (v := ?_) rfl (by kernel_rfl) (by kernel_rfl) (by kernel_rfl) (fun _ _ _ h => h) (Or.inl ⟨by rfl, ?_⟩) (by assumption) ?_; (case' refine_2 => (intro w hSw; go_simp; try with_reducible rfl)); (try simp only [Act.put, List.getElem_toArray, List.getElem_cons_zero, List.getElem_cons_succ, List.setIfInBounds_toArray, List.set_cons_zero, List.set_cons_succ]))
  (refine wpAnyH_take (i := 3) (v := ?_) rfl (by kernel_rfl) (by kernel_rfl) (by kernel_rfl) (fun _ _ _ h => h) (Or.inl ⟨by rfl, ?_⟩) (by assumption) ?_; (case' refine_2 => (intro w hSw; go_simp; try with_reducible rfl)); (try simp only [Act.put, List.getElem_toArray, List.getElem_cons_zero, List.getElem_cons_succ, List.setIfInBounds_toArray, List.set_cons_zero, List.set_cons_succ]))
  (refine wpAnyH_ready (rs := [1]) (by kernel_rfl) (by simp) (AllReadyH.cons rfl (fun K hK => ?_) AllReadyH.nil); go_simp)
  refine (int_c seq _).mono ?_
  rintro e w3 ⟨v, rfl, ho, hb⟩
  have hb' := below_drew_of hb
  have HG3 := Aside0.mk (blk_below HG.out hb')
  have HH3 := Aside0.mk (blk_below HH.out hb')
  have HZ3 := Aside0.mk (blk_below HZ.out hb')
  have HB3 := Aside0.mk (below_step HB.out hb')
  clear hb hb'
  obtain ⟨An, cn, rfl, hl_, hr_⟩ := Ob.reads ho; have HRn := Aside0.mk hr_; have HLn := Aside0.mk hl_; clear ho hl_ hr_
  (refine Shut.out hK _ _ trivial (fun hHeld => ?_); clear hK K; (try simp only [Act.put, List.getElem_toArray, List.getElem_cons_zero, List.getElem_cons_succ, List.setIfInBounds_toArray, List.set_cons_zero, List.set_cons_succ]))
  (refine wpAnyH_ready (rs := [4]) (by kernel_rfl) (by simp) (AllReadyH.cons rfl (fun K hK => ?_) AllReadyH.nil); go_simp)
  have HRR := Aside0.mk (show Rr (w3.alloc (.cells #[.slice An (intB seq).length cn, .slice (some ⟨g0, 0, none⟩) 32 32, .slice (some ⟨g0 + 1, 0, none⟩) 32 32] 22)) (some ⟨w3.heap.size, 0, none⟩) [intB seq, p, q] from lit_rr (blk_new w3 _) _ (by simp) (fun j l hj => by
    match j, hj with
    | 0, hj => cases hj; exact ⟨An, cn, rfl, HLn.out, Kd.C_alloc HRn.out _⟩
    | 1, hj => cases hj; exact ⟨some ⟨g0, 0, none⟩, 32, by rw [HLP.out.1]; rfl, Nat.le_of_eq HLP.out.1, rb_blk (by have h := blk_alloc HG3.out (.cells #[.slice An (intB seq).length cn, .slice (some ⟨g0, 0, none⟩) 32 32, .slice (some ⟨g0 + 1, 0, none⟩) 32 32] 22); rw [← HP.out] at h; exact h) (by rw [HLP.out.1]; decide)⟩
    | 2, hj => cases hj; exact ⟨some ⟨g0 + 1, 0, none⟩, 32, by rw [HLP.out.2]; rfl, Nat.le_of_eq HLP.out.2, rb_blk (by have h := blk_alloc HH3.out (.cells #[.slice An (intB seq).length cn, .slice (some ⟨g0, 0, none⟩) 32 32, .slice (some ⟨g0 + 1, 0, none⟩) 32 32] 22); rw [← HC.out] at h; exact h) (by rw [HLP.out.2]; decide)⟩))
  have HZ4 := Aside0.mk (blk_alloc HZ3.out (.cells #[.slice An (intB seq).length cn, .slice (some ⟨g0, 0, none⟩) 32 32, .slice (some ⟨g0 + 1, 0, none⟩) 32 32] 22))
  have HB4 := Aside0.mk (below_alloc HB3.out (.cells #[.slice An (intB seq).length cn, .slice (some ⟨g0, 0, none⟩) 32 32, .slice (some ⟨g0 + 1, 0, none⟩) 32 32] 22))
  (refine Shut.out hK _ _ trivial (fun hHeld => ?_); clear hK K; (try simp only [Act.put, List.getElem_toArray, List.getElem_cons_zero, List.getElem_cons_succ, List.setIfInBounds_toArray, List.set_cons_zero, List.set_cons_succ]))
  (refine wpAnyH_ready (rs := [5]) (by kernel_rfl) (by simp) (AllReadyH.cons rfl (fun K hK => ?_) AllReadyH.nil); go_simp)
  refine (csum_c 2 (by decide) (some ⟨w3.heap.size, 0, none⟩) 3 [intB seq, p, q] _ HRR.out (by simp) (by
    intro x hx y hy
    rcases List.mem_cons.1 hx with rfl | hx
    · exact numB_u8 (u64_range seq).2 y hy
    · rcases List.mem_cons.1 hx with rfl | hx
      · exact HU.out.1 y hy
      · rw [List.mem_singleton.1 hx] at hy
        exact HU.out.2 y hy) (by
    have h2 := numB_len (u64_range seq).2
    have h3 := HLP.out
    simp only [List.flatten_cons, List.flatten_nil, List.append_nil, List.length_append, intB]
    omega) (by simp)).mono ?_
  rintro e w6 ⟨rfl, hb6⟩
  obtain ⟨D, hD⟩ : ∃ D, (nums .u8 (shaB (linkB seq p q))).toArray = D := ⟨_, rfl⟩
  have HD := Aside0.mk hD
  have hds : D.size = 32 := by rw [← hD]; simp [nums, shaB_len]
  have HIF := Aside0.mk (show (Try.prog.info? 24).map (·.size) = some D.size by rw [hds]; exact info_32)
  have HSZ := Aside0.mk (show Z32.size = D.size by rw [hds]; simp [Z32, nums])
  have HONE := Aside0.mk (show D.all (·.oneCell') = true by rw [← hD]; exact nums_one _ _)
  rw [show sumV (shaB (2 :: [intB seq, p, q].flatten)) = .agg D by rw [← HD.out, linkB]; simp]
  have HZ6 := Aside0.mk (blk_below HZ4.out hb6)
  have HB6 := Aside0.mk (below_step HB4.out hb6)
  clear hb6 hD hds
  (refine Shut.out hK _ _ trivial (fun hHeld => ?_); clear hK K; (try simp only [Act.put, List.getElem_toArray, List.getElem_cons_zero, List.getElem_cons_succ, List.setIfInBounds_toArray, List.set_cons_zero, List.set_cons_succ]))
  refine wpAnyH_ready (rs := [6]) (by kernel_rfl) (by simp) (AllReadyH.cons rfl (fun K hK => ?_) AllReadyH.nil)
  rw [if_pos (by rfl)]
  refine wp_store_row 24 (.tmp 6) (.tmp 12) rfl (g0 + 1 + 1) D rfl rfl 24 Z32 HZ6.out HIF.out HSZ.out HONE.out ?_
  (refine Shut.out hK _ _ trivial (fun hHeld => ?_); clear hK K; (try simp only [Act.put, List.getElem_toArray, List.getElem_cons_zero, List.getElem_cons_succ, List.setIfInBounds_toArray, List.set_cons_zero, List.set_cons_succ]))
  refine wpAnyH_done (by kernel_rfl) ?_ _
  go_wp2_with (fail)
  have HSR := setRow_heap w6 (g0 + 1 + 1) Z32 D _ _ HZ6.out
  refine bodyPost_ret (v := .agg D) (results_cell_row rfl _ _ (g0 + 1 + 1) 24 D (0, 0) _ rfl HSR Try.underlying24 rfl HIF.out) rfl ⟨by rw [← HD.out], below_setRow HB6.out (by have := HG0.out; omega) D⟩
end Go.Proofs.Ytbebkogkeepfoaa.Com
/- The document's text of a link, and its sum. -/
namespace Go.Proofs.Ytbebkogkeepfoaa.Com
set_option linter.unusedVariables false
set_option linter.unusedSimpArgs false
open Go.RowKit Go.Proofs.Ytbebkogkeepfoaa.Base Go.Proofs.Ytbebkogkeepfoaa.TlvPlain Go.Proofs.Ytbebkogkeepfoaa.ShaPlain Go.Proofs.Ytbebkogkeepfoaa.Sha Go.Proofs.Ytbebkogkeepfoaa.Lo Go.Proofs.Ytbebkogkeepfoaa.Aid Go.Proofs.YtbebkogkeepfoaaW.PrintWords Go.Proofs.YtbebkogkeepfoaaW.PrintLast Go.Proofs.YtbebkogkeepfoaaW.PrintMore
theorem c32 {w : World} {g T : Nat} {xs : List Int} {C : Array Value} (h : w.heap[g]? = some (.cells C T (0, 0))) (hC : (nums .u8 xs).toArray = C) (hl : xs.length = 32) : Kd.C (Kd.int .u8) w (some ⟨g, 0, none⟩) 32 xs := by
  subst hC
  have h2 := rb_blk h (by rw [hl]; decide)
  have h3 : Kd.C (Kd.int .u8) w (some ⟨g, 0, none⟩) xs.length xs := h2
  rwa [hl] at h3
theorem intB_len (n : Int) : (intB n).length ≤ 9 := numB_len (u64_range n).2
set_option maxHeartbeats 4000000 in
set_option maxRecDepth 100000 in
theorem ltext_c (seq : Int) (p q : List Int) (hp : p.length = 32) (hq : q.length = 32) (w : World) :
    Calls Try.prog 29 #[.int .i64 seq, .agg (nums .u8 p).toArray, .agg (nums .u8 q).toArray] w (Makes w (linkB seq p q)) := by
  obtain ⟨P, hP⟩ : ∃ P, (nums .u8 p).toArray = P := ⟨_, rfl⟩
  obtain ⟨C, hC⟩ : ∃ C, (nums .u8 q).toArray = C := ⟨_, rfl⟩
  have HP := Aside0.mk hP
  have HC := Aside0.mk hC
  have HLP := Aside0.mk (And.intro hp hq)
  have HIL := Aside0.mk (intB_len seq)
  rw [hP, hC]
  clear hP hC hp hq
  have HG := Aside0.mk (show ((w.alloc (.cells P 24)).alloc (.cells C 24)).heap[w.heap.size]? = some (.cells P 24 (0, 0)) from blk_alloc (blk_new _ _) _)
  have HH := Aside0.mk (show ((w.alloc (.cells P 24)).alloc (.cells C 24)).heap[w.heap.size + 1]? = some (.cells C 24 (0, 0)) from second_new' _ _ _)
  have HB := Aside0.mk (show Below w.heap.size w ((w.alloc (.cells P 24)).alloc (.cells C 24)) from below_alloc (below_alloc (Below.refl _ _) _) _)
  unfold Makes
  go_enter Try.func29, Try.ntmps29
  go_wp2_with (first
    | ((with_reducible refine gate_dst (N := 8) rfl ?_); (try (refine gate_guard (by rfl) ?_; dsimp only)); refine lit_bytes (N := 8) ?hg ?hd [2] [.int .u8 (2)] rfl ?hr (by simp) ?_; (case hd => rfl); (case hg => rfl); (case hr => first | (go_simp; done) | (go_simp; rfl)); intro v w1 ho hb; have m1_ := Aside0.mk (blk_below HG.out hb); have m2_ := Aside0.mk (blk_below HH.out hb); have m3_ := Aside0.mk (below_step HB.out hb); have HO := Aside0.mk (Kd.R_lower ho HB.out.size); clear HG HH HB; have HG := m1_; have HH := m2_; have HB := m3_; clear m1_ m2_ m3_ hb ho)
    | (go_at_call 54; refine (rint_c seq _).mono ?_; rintro e w3 ⟨v, rfl, ho, hb⟩; have m0_ := Aside0.mk (Kd.R_below HO.out hb); have m1_ := Aside0.mk (blk_below HG.out hb); have m2_ := Aside0.mk (blk_below HH.out hb); have m3_ := Aside0.mk (below_step HB.out hb); clear HG HH HB HO; have HG := m1_; have HH := m2_; have HB := m3_; have HO := m0_; clear m0_ m1_ m2_ m3_ hb; obtain ⟨An, cn, rfl, hl_, hr_⟩ := Ob.reads ho; have HRn := Aside0.mk hr_; have HLn := Aside0.mk hl_; clear ho hl_ hr_)
    | ((with_reducible refine gate_builtin (b := .append) (xs := #[.tmp 8, .tmp 10]) rfl ?_); at_builtin; refine Kd.R_append_rows (Kd.int .u8) (w0 := w) w.heap.size rfl (.tmp 8) (.tmp 10) 22 5 (.int .u8 0) 1 rfl Try.underlying22 info_u8 rfl (by decide) (by omega) _ [2] (intB seq) _ _ _ (fun _ => True) (fun _ => False) rfl rfl HO.out HRn.out (fun _ _ h => h) (fun _ h => h.elim) (fun _ _ => trivial) HB.out HB.out.size (by have := HIL.out; simp; omega) ?_; intro v1 w5 ho hb hg hat; have m1_ := Aside0.mk (blk_grown HG.out hg (Kd.R_ne HO.out HG.out (by decide))); have m2_ := Aside0.mk (blk_grown HH.out hg (Kd.R_ne HO.out HH.out (by decide))); clear HG HH HB HO; have HG := m1_; have HH := m2_; have HB := Aside0.mk hb; have HO := Aside0.mk ho; clear m1_ m2_ hb ho hg hat))
  have HO1 := Aside0.mk (Kd.R_drew HO.out)
  have HB1 := Aside0.mk (below_drew1 HB.out)
  have HG1 := Aside0.mk (show w5.drew.heap[w.heap.size]? = some (.cells P 24 (0, 0)) from HG.out)
  have HH1 := Aside0.mk (show w5.drew.heap[w.heap.size + 1]? = some (.cells C 24 (0, 0)) from HH.out)
  refine wp_region_held_drew (S := fun _ => True) (by kernel_rfl) trivial (fun hHeld => ?_)
  (refine wpAnyH_take (i := 0) (v := ?_) rfl (by kernel_rfl) (by kernel_rfl) (by kernel_rfl) (fun _ _ _ h => h) (Or.inl ⟨by rfl, ?_⟩) (by assumption) ?_; (case' refine_2 => (intro w hSw; go_simp; try with_reducible rfl)); (try simp only [Act.put, List.getElem_toArray, List.getElem_cons_zero, List.getElem_cons_succ, List.setIfInBounds_toArray, List.set_cons_zero, List.set_cons_succ]))
  (refine wpAnyH_take (i := 1) (v := ?_) rfl (by kernel_rfl) (by kernel_rfl) (by kernel_rfl) (fun _ _ _ h => h) (Or.inl ⟨by rfl, ?_⟩) (by assumption) ?_; (case' refine_2 => (intro w hSw; go_simp; try with_reducible rfl)); (try simp only [Act.put, List.getElem_toArray, List.getElem_cons_zero, List.getElem_cons_succ, List.setIfInBounds_toArray, List.set_cons_zero, List.set_cons_succ]))
  (refine wpAnyH_take (i := 3) (v := ?_) rfl (by kernel_rfl) (by kernel_rfl) (by kernel_rfl) (fun _ _ _ h => h) (Or.inl ⟨by rfl, ?_⟩) (by assumption) ?_; (case' refine_2 => (intro w hSw; go_simp; try with_reducible rfl)); (try simp only [Act.put, List.getElem_toArray, List.getElem_cons_zero, List.getElem_cons_succ, List.setIfInBounds_toArray, List.set_cons_zero, List.set_cons_succ]))
  refine wpAnyH_ready (rs := [2]) (by kernel_rfl) (by simp) (AllReadyH.cons rfl (fun K hK => ?_) AllReadyH.nil)
  refine Kd.R_append_rows_step (Kd.int .u8) (w0 := w) w.heap.size rfl (.tmp 12) (.tmp 13) 22 5 (.int .u8 0) 1 rfl Try.underlying22 info_u8 rfl (by decide) (by omega) v1 ([2] ++ intB seq) p _ _ _ (fun _ => True) (fun _ => False) rfl rfl HO1.out (c32 HG1.out HP.out HLP.out.1) (fun _ _ h => h) (fun _ h => h.elim) (fun _ _ => trivial) HB1.out HB1.out.size (by have := HIL.out; simp; omega) ?_
  intro v2 w6 ho hb hg hat
  have HO2 := Aside0.mk ho
  have HB2 := Aside0.mk hb
  have HH2 := Aside0.mk (blk_grown HH1.out hg (Kd.R_ne HO1.out HH1.out (by decide)))
  clear ho hb hg hat
  (refine Shut.out hK _ _ trivial (fun hHeld => ?_); clear hK K; (try simp only [Act.put, List.getElem_toArray, List.getElem_cons_zero, List.getElem_cons_succ, List.setIfInBounds_toArray, List.set_cons_zero, List.set_cons_succ]))
  refine wpAnyH_ready (rs := [4]) (by kernel_rfl) (by simp) (AllReadyH.cons rfl (fun K hK => ?_) AllReadyH.nil)
  refine Kd.R_append_rows_step (Kd.int .u8) (w0 := w) w.heap.size rfl (.tmp 14) (.tmp 15) 22 5 (.int .u8 0) 1 rfl Try.underlying22 info_u8 rfl (by decide) (by omega) v2 ([2] ++ intB seq ++ p) q _ _ _ (fun _ => True) (fun _ => False) rfl rfl HO2.out (c32 HH2.out HC.out HLP.out.2) (fun _ _ h => h) (fun _ h => h.elim) (fun _ _ => trivial) HB2.out HB2.out.size (by have := HIL.out; have := HLP.out; simp; omega) ?_
  intro v3 w7 ho hb hg hat
  rw [show [2] ++ intB seq ++ p ++ q = linkB seq p q by simp [linkB]] at ho
  have HO3 := Aside0.mk ho
  have HB3 := Aside0.mk hb
  clear ho hb hg hat
  (refine Shut.out hK _ _ trivial (fun hHeld => ?_); clear hK K; (try simp only [Act.put, List.getElem_toArray, List.getElem_cons_zero, List.getElem_cons_succ, List.setIfInBounds_toArray, List.set_cons_zero, List.set_cons_succ]))
  (refine wpAnyH_take (i := 5) (v := ?_) rfl (by kernel_rfl) (by kernel_rfl) (by kernel_rfl) (fun _ _ _ h => h) (Or.inl ⟨by rfl, ?_⟩) (by assumption) ?_; (case' refine_2 => (intro w hSw; go_simp; try with_reducible rfl)); (try simp only [Act.put, List.getElem_toArray, List.getElem_cons_zero, List.getElem_cons_succ, List.setIfInBounds_toArray, List.set_cons_zero, List.set_cons_succ]))
  refine wpAnyH_done (by kernel_rfl) ?_ _
  go_wp2_with (fail)
  go_ret
  exact ⟨_, rfl, HO3.out, HB3.out⟩
end Go.Proofs.Ytbebkogkeepfoaa.Com
/- CommitLinks: the document's link, the law's walk. -/
namespace Go.Proofs.Ytbebkogkeepfoaa.Com
set_option linter.unusedVariables false
set_option linter.unusedSimpArgs false
open Go.RowKit Go.Proofs.Ytbebkogkeepfoaa.Base Go.Proofs.Ytbebkogkeepfoaa.TlvPlain Go.Proofs.Ytbebkogkeepfoaa.ShaPlain Go.Proofs.Ytbebkogkeepfoaa.Sha Go.Proofs.Ytbebkogkeepfoaa.Lo Go.Proofs.Ytbebkogkeepfoaa.Aid Go.Proofs.YtbebkogkeepfoaaW.PrintWords Go.Proofs.YtbebkogkeepfoaaW.PrintLast Go.Proofs.YtbebkogkeepfoaaW.PrintMore
theorem linkB_len {seq : Int} {p q : List Int} (hp : p.length = 32) (hq : q.length = 32) : (linkB seq p q).length ≤ 74 := by
  have := intB_len seq
  unfold linkB
  rw [List.length_cons, List.length_append, List.length_append]
  omega
theorem linkB_u8 {seq : Int} {p q : List Int} (hp : U8 p) (hq : U8 q) : U8 (linkB seq p q) := by
  intro x hx
  rcases List.mem_cons.1 hx with rfl | hx
  · exact ⟨by decide, by decide⟩
  · rcases List.mem_append.1 hx with hx | hx
    · exact numB_u8 (u64_range seq).2 x hx
    · exact (List.mem_append.1 hx).elim (hp x) (hq x)
set_option maxHeartbeats 4000000 in
set_option maxRecDepth 100000 in
theorem rlink_c (seq : Int) (p q : List Int) (hp : p.length = 32) (hq : q.length = 32) (hpu : U8 p) (hqu : U8 q) (w : World) :
    Calls Try.prog 26 #[.int .i64 seq, .agg (nums .u8 p).toArray, .agg (nums .u8 q).toArray] w fun e w' => e = .returned (sumV (shaB (linkB seq p q))) ∧ Below w.heap.size w w' := by
  obtain ⟨P, hP⟩ : ∃ P, (nums .u8 p).toArray = P := ⟨_, rfl⟩
  obtain ⟨C, hC⟩ : ∃ C, (nums .u8 q).toArray = C := ⟨_, rfl⟩
  have HLT := Aside0.mk (ltext_c seq p q hp hq)
  have hps : P.size = 32 := by rw [← hP]; simp [nums, hp]
  have hqs : C.size = 32 := by rw [← hC]; simp [nums, hq]
  have HIP := Aside0.mk (show (Try.prog.info? 24).map (·.size) = some P.size by rw [hps]; exact info_32)
  have HIC := Aside0.mk (show (Try.prog.info? 24).map (·.size) = some C.size by rw [hqs]; exact info_32)
  have HLEN := Aside0.mk (linkB_len (seq := seq) hp hq)
  have HU := Aside0.mk (linkB_u8 (seq := seq) hpu hqu)
  rw [hP, hC] at HLT
  rw [hP, hC]
  clear hP hC hp hq hpu hqu hps hqs
  have HG := Aside0.mk (show (((w.alloc (.cells P 24)).alloc (.cells C 24)).alloc (.cells Z32 24)).heap[w.heap.size]? = some (.cells P 24 (0, 0)) from blk_alloc (blk_alloc (blk_new _ _) _) _)
  have HH := Aside0.mk (show (((w.alloc (.cells P 24)).alloc (.cells C 24)).alloc (.cells Z32 24)).heap[w.heap.size + 1]? = some (.cells C 24 (0, 0)) from blk_alloc (second_new' _ _ _) _)
  have HZ := Aside0.mk (show (((w.alloc (.cells P 24)).alloc (.cells C 24)).alloc (.cells Z32 24)).heap[w.heap.size + 1 + 1]? = some (.cells Z32 24 (0, 0)) from third_new _ _ _ _)
  have HB := Aside0.mk (show Below w.heap.size w (((w.alloc (.cells P 24)).alloc (.cells C 24)).alloc (.cells Z32 24)) from below_alloc (below_alloc (below_alloc (Below.refl _ _) _) _) _)
  go_enter Try.func26, Try.ntmps26
  go_wp2_with (first
    | ((with_reducible refine gate_dst (N := 8) rfl ?_); refine wpList_load_row rfl 24 (.tmp 4) rfl w.heap.size rfl 24 P (0, 0) _ (by exact HG.out) Try.underlying24 rfl HIP.out ?_)
    | ((with_reducible refine gate_dst (N := 9) rfl ?_); refine wpList_load_row rfl 24 (.tmp 5) rfl (w.heap.size + 1) rfl 24 C (0, 0) _ (by exact HH.out) Try.underlying24 rfl HIC.out ?_))
  refine (HLT.out _).mono ?_
  rintro e w3 ⟨v, rfl, ho, hb⟩
  have HZ3 := Aside0.mk (blk_below HZ.out hb)
  have HB3 := Aside0.mk (below_step HB.out hb)
  clear hb
  obtain ⟨An, cn, rfl, hl_, hr_⟩ := Ob.reads ho; have HRn := Aside0.mk hr_; have HLn := Aside0.mk hl_; clear ho hl_ hr_
  go_wp2_with (fail)
  refine (rof_c An cn (linkB seq p q) w3 HRn.out HLn.out HU.out (by have := HLEN.out; omega)).mono ?_
  rintro e w6 ⟨rfl, hb6⟩
  obtain ⟨D, hD⟩ : ∃ D, (nums .u8 (shaB (linkB seq p q))).toArray = D := ⟨_, rfl⟩
  have HD := Aside0.mk hD
  have hds : D.size = 32 := by rw [← hD]; simp [nums, shaB_len]
  have HIF := Aside0.mk (show (Try.prog.info? 24).map (·.size) = some D.size by rw [hds]; exact info_32)
  have HSZ := Aside0.mk (show Z32.size = D.size by rw [hds]; simp [Z32, nums])
  have HONE := Aside0.mk (show D.all (·.oneCell') = true by rw [← hD]; exact nums_one _ _)
  rw [show sumV (shaB (linkB seq p q)) = .agg D by rw [← HD.out]]
  have HZ6 := Aside0.mk (blk_below HZ3.out hb6)
  have HB6 := Aside0.mk (below_step HB3.out hb6)
  clear hb6 hD hds
  go_wp2_with ((with_reducible refine gate_store (t := 24) (p := 6) (v := .tmp 11) rfl ?_); refine wpList_store_row rfl 24 (.tmp 6) (.tmp 11) rfl (w.heap.size + 1 + 1) D rfl rfl 24 Z32 HZ6.out HIF.out HSZ.out HONE.out ?_)
  have HSR := setRow_heap w6 (w.heap.size + 1 + 1) Z32 D _ _ HZ6.out
  refine bodyPost_ret (v := .agg D) (results_cell_row rfl _ _ (w.heap.size + 1 + 1) 24 D (0, 0) _ rfl HSR Try.underlying24 rfl HIF.out) rfl ⟨by rw [← HD.out], below_setRow HB6.out (by omega) D⟩
set_option maxHeartbeats 8000000 in
set_option maxRecDepth 100000 in
theorem links_walk (w : World) (seq : Int) (p q : List Int) (hp : p.length = 32) (hq : q.length = 32) (hpu : U8 p) (hqu : U8 q) :
    Calls Try.prog 7 #[.int .i64 seq, .agg (nums .u8 p).toArray, .agg (nums .u8 q).toArray] w fun e w' => e = .returned (.bool true) ∧ Below w.heap.size w w' := by
  obtain ⟨P, hP⟩ : ∃ P, nums .u8 p = P := ⟨_, rfl⟩
  obtain ⟨C, hC⟩ : ∃ C, nums .u8 q = C := ⟨_, rfl⟩
  obtain ⟨cs, hcs⟩ : ∃ cs, nums .u8 (shaB (linkB seq p q)) = cs := ⟨_, rfl⟩
  have HIP := Aside0.mk (size_32 (cs := P) (by rw [← hP]; simp [nums, hp]))
  have HIC := Aside0.mk (size_32 (cs := C) (by rw [← hC]; simp [nums, hq]))
  have HL := Aside0.mk (link_c seq p q hp hq hpu hqu)
  have HRL := Aside0.mk (rlink_c seq p q hp hq hpu hqu)
  have HE1 := Aside0.mk (run_eq_sum (shaB (linkB seq p q)) (shaB (linkB seq p q)) (shaB_len _) (shaB_len _))
  simp only [sumV, decide_true] at HL HRL HE1
  rw [hP, hC, hcs] at HL HRL
  rw [hcs] at HE1
  rw [hP, hC]
  clear hP hC hcs hp hq hpu hqu
  go_enter Try.func7, Try.ntmps7
  go_wp2_with (fail)
  have HG := Aside0.mk (show ((w.alloc (.cells P.toArray 24)).alloc (.cells C.toArray 24)).heap[w.heap.size]? = some (.cells P.toArray 24 (0, 0)) from blk_alloc (blk_new _ _) _)
  have HH := Aside0.mk (show ((w.alloc (.cells P.toArray 24)).alloc (.cells C.toArray 24)).heap[w.heap.size + 1]? = some (.cells C.toArray 24 (0, 0)) from second_new' _ _ _)
  have HB := Aside0.mk (show Below w.heap.size w ((w.alloc (.cells P.toArray 24)).alloc (.cells C.toArray 24)) from below_alloc (below_alloc (Below.refl _ _) _) _)
  obtain ⟨W, hW⟩ : ∃ W, (w.alloc (.cells P.toArray 24)).alloc (.cells C.toArray 24) = W := ⟨_, rfl⟩
  rw [hW] at HG HH HB ⊢
  obtain ⟨g, hg⟩ : ∃ g, w.heap.size = g := ⟨_, rfl⟩
  obtain ⟨h, hh⟩ : ∃ h, g + 1 = h := ⟨_, rfl⟩
  rw [hg] at HG HH ⊢
  rw [hh] at HH ⊢
  clear hW hg hh
  have hguard := guard_32
  have heq1 := HE1.out
  have hu24 := Try.underlying24
  refine wp_region_held_drew (S := fun w' => w'.rangeAt g 0 P ∧ w'.rangeAt h 0 C) (by kernel_rfl) (And.intro (range_blk HG.out) (range_blk HH.out)) (fun hHeld => ?_)
  (refine wpAnyH_take (i := 0) (v := ?_) rfl (by kernel_rfl) (by kernel_rfl) (by kernel_rfl) (fun _ _ _ h => h) (Or.inl ⟨by rfl, ?_⟩) (by assumption) ?_; (case' refine_2 => (intro w hSw; go_simp; try with_reducible rfl)); (try simp only [Act.put, List.getElem_toArray, List.getElem_cons_zero, List.getElem_cons_succ, List.setIfInBounds_toArray, List.set_cons_zero, List.set_cons_succ]))
  (refine wpAnyH_take (i := 1) rfl (by kernel_rfl) (by kernel_rfl) (by kernel_rfl) (fun _ _ _ h => h) (yieldsIf_load_mid (by rfl) _ _ rfl _ _ rfl _ _ (fun _ h => h.1) (by assumption) rfl HIP.out) (by assumption) ?_; (try simp only [Act.put, List.getElem_toArray, List.getElem_cons_zero, List.getElem_cons_succ, List.setIfInBounds_toArray, List.set_cons_zero, List.set_cons_succ]))
  (refine wpAnyH_take (i := 2) rfl (by kernel_rfl) (by kernel_rfl) (by kernel_rfl) (fun _ _ _ h => h) (yieldsIf_load_mid (by rfl) _ _ rfl _ _ rfl _ _ (fun _ h => h.2) (by assumption) rfl HIC.out) (by assumption) ?_; (try simp only [Act.put, List.getElem_toArray, List.getElem_cons_zero, List.getElem_cons_succ, List.setIfInBounds_toArray, List.set_cons_zero, List.set_cons_succ]))
  (refine wpAnyH_take (i := 4) (v := ?_) rfl (by kernel_rfl) (by kernel_rfl) (by kernel_rfl) (fun _ _ _ h => h) (Or.inl ⟨by rfl, ?_⟩) (by assumption) ?_; (case' refine_2 => (intro w hSw; go_simp; try with_reducible rfl)); (try simp only [Act.put, List.getElem_toArray, List.getElem_cons_zero, List.getElem_cons_succ, List.setIfInBounds_toArray, List.set_cons_zero, List.set_cons_succ]))
  (refine wpAnyH_take (i := 5) rfl (by kernel_rfl) (by kernel_rfl) (by kernel_rfl) (fun _ _ _ h => h) (yieldsIf_load_mid (by rfl) _ _ rfl _ _ rfl _ _ (fun _ h => h.1) (by assumption) rfl HIP.out) (by assumption) ?_; (try simp only [Act.put, List.getElem_toArray, List.getElem_cons_zero, List.getElem_cons_succ, List.setIfInBounds_toArray, List.set_cons_zero, List.set_cons_succ]))
  (refine wpAnyH_take (i := 6) rfl (by kernel_rfl) (by kernel_rfl) (by kernel_rfl) (fun _ _ _ h => h) (yieldsIf_load_mid (by rfl) _ _ rfl _ _ rfl _ _ (fun _ h => h.2) (by assumption) rfl HIC.out) (by assumption) ?_; (try simp only [Act.put, List.getElem_toArray, List.getElem_cons_zero, List.getElem_cons_succ, List.setIfInBounds_toArray, List.set_cons_zero, List.set_cons_succ]))
  (refine wpAnyH_ready (rs := [3]) (by kernel_rfl) (by simp) (AllReadyH.cons rfl (fun K hK => ?_) AllReadyH.nil); go_simp)
  refine (HL.out _).mono ?_
  rintro e w3 ⟨rfl, hb⟩
  have HG3 := Aside0.mk (blk_below HG.out (below_drew_of hb))
  have HH3 := Aside0.mk (blk_below HH.out (below_drew_of hb))
  have HB3 := Aside0.mk (below_step HB.out (below_drew_of hb))
  clear hb
  (refine Shut.out hK _ _ (And.intro (range_blk HG3.out) (range_blk HH3.out)) (fun hHeld => ?_); clear hK K; (try simp only [Act.put, List.getElem_toArray, List.getElem_cons_zero, List.getElem_cons_succ, List.setIfInBounds_toArray, List.set_cons_zero, List.set_cons_succ]))
  (refine wpAnyH_ready (rs := [7]) (by kernel_rfl) (by simp) (AllReadyH.cons rfl (fun K hK => ?_) AllReadyH.nil); go_simp)
  refine (HRL.out _).mono ?_
  rintro e w4 ⟨rfl, hb⟩
  have HG4 := Aside0.mk (blk_below HG3.out hb)
  have HH4 := Aside0.mk (blk_below HH3.out hb)
  have HB4 := Aside0.mk (below_step HB3.out hb)
  clear hb
  (refine Shut.out hK _ _ (And.intro (range_blk HG4.out) (range_blk HH4.out)) (fun hHeld => ?_); clear hK K; (try simp only [Act.put, List.getElem_toArray, List.getElem_cons_zero, List.getElem_cons_succ, List.setIfInBounds_toArray, List.set_cons_zero, List.set_cons_succ]))
  (refine wpAnyH_take (i := 8) (v := ?_) rfl (by kernel_rfl) (by kernel_rfl) (by kernel_rfl) (fun _ _ _ h => h) (Or.inl ⟨by rfl, ?_⟩) (by assumption) ?_; (case' refine_2 => (intro w hSw; go_simp; try with_reducible rfl)); (try simp only [Act.put, List.getElem_toArray, List.getElem_cons_zero, List.getElem_cons_succ, List.setIfInBounds_toArray, List.set_cons_zero, List.set_cons_succ]))
  (refine wpAnyH_take (i := 9) (v := ?_) rfl (by kernel_rfl) (by kernel_rfl) (by kernel_rfl) (fun _ _ _ h => h) (Or.inl ⟨by rfl, ?_⟩) (by assumption) ?_; (case' refine_2 => (intro w hSw; go_simp; try with_reducible rfl)); (try simp only [Act.put, List.getElem_toArray, List.getElem_cons_zero, List.getElem_cons_succ, List.setIfInBounds_toArray, List.set_cons_zero, List.set_cons_succ]))
  (refine wpAnyH_ready (rs := [10]) (by kernel_rfl) (by simp) (AllReadyH.cons rfl (fun K hK => ?_) AllReadyH.nil); go_simp)
  refine (live7_c _).mono ?_
  rintro e w6 ⟨rfl, hb⟩
  have HG6 := Aside0.mk (blk_below HG4.out hb)
  have HH6 := Aside0.mk (blk_below HH4.out hb)
  have HB6 := Aside0.mk (below_step HB4.out hb)
  clear hb
  (refine Shut.out hK _ _ (And.intro (range_blk HG6.out) (range_blk HH6.out)) (fun hHeld => ?_); clear hK K; (try simp only [Act.put, List.getElem_toArray, List.getElem_cons_zero, List.getElem_cons_succ, List.setIfInBounds_toArray, List.set_cons_zero, List.set_cons_succ]))
  (refine wpAnyH_take (i := 11) (v := ?_) rfl (by kernel_rfl) (by kernel_rfl) (by kernel_rfl) (fun _ _ _ h => h) (Or.inl ⟨by rfl, ?_⟩) (by assumption) ?_; (case' refine_2 => (intro w hSw; go_simp; try with_reducible rfl)); (try simp only [Act.put, List.getElem_toArray, List.getElem_cons_zero, List.getElem_cons_succ, List.setIfInBounds_toArray, List.set_cons_zero, List.set_cons_succ]))
  (refine wpAnyH_take (i := 12) (v := ?_) rfl (by kernel_rfl) (by kernel_rfl) (by kernel_rfl) (fun _ _ _ h => h) (Or.inl ⟨by rfl, ?_⟩) (by assumption) ?_; (case' refine_2 => (intro w hSw; go_simp; try with_reducible rfl)); (try simp only [Act.put, List.getElem_toArray, List.getElem_cons_zero, List.getElem_cons_succ, List.setIfInBounds_toArray, List.set_cons_zero, List.set_cons_succ]))
  refine wpAnyH_done (by kernel_rfl) ?_ _
  go_wp2_with (fail)
  go_ret
  exact ⟨rfl, HB6.out⟩
theorem linksWalk (w : World) (seq : Int) (_ : (Lit.int .i64 seq).wf = true) (p : List Int) (cp : Array Value) (hp : (Kd.arr 32 (Kd.int .u8) (by decide)).K w p cp.toList) (okp : ∀ x ∈ p, (Lit.int .u8 x).wf = true)
    (q : List Int) (cq : Array Value) (hq : (Kd.arr 32 (Kd.int .u8) (by decide)).K w q cq.toList) (okq : ∀ x ∈ q, (Lit.int .u8 x).wf = true) :
    Calls Try.prog 7 #[.int .i64 seq, .agg cp, .agg cq] w fun e w' => e = .returned (.bool true) ∧ Below w.heap.size w w' := by
  obtain ⟨rfl, hl⟩ := arr_sum hp
  obtain ⟨rfl, hl2⟩ := arr_sum hq
  exact links_walk w seq p q hl hl2 (fun x hx => byte_wf (okp x hx)) (fun x hx => byte_wf (okq x hx))
end Go.Proofs.Ytbebkogkeepfoaa.Com
/- CommitBinds: the plain law: what is summed for two commitments is the same only where salt and payload are; nor is it what is summed for a link. -/
namespace Go.Proofs.Ytbebkogkeepfoaa.Com
open Go.RowKit Go.Proofs.Ytbebkogkeepfoaa.Base Go.Proofs.Ytbebkogkeepfoaa.TlvPlain Go.Proofs.Ytbebkogkeepfoaa.ShaPlain Go.Proofs.Ytbebkogkeepfoaa.Sha Go.Proofs.Ytbebkogkeepfoaa.Lo Go.Proofs.Ytbebkogkeepfoaa.Aid
theorem numB_cut {m n : Int} (hm0 : 0 ≤ m) (hm1 : m ≤ 18446744073709551615) (hn0 : 0 ≤ n) (hn1 : n ≤ 18446744073709551615) {r s : List Int} (h : numB m ++ r = numB n ++ s) : m = n ∧ r = s := by
  have h1 := numO_numB m hm0 hm1 r
  rw [h, numO_numB n hn0 hn1 s] at h1
  injection h1 with h2 h3
  injection h3 with h3
  exact ⟨h2.symm, h3.symm⟩
theorem textB_inj {a b : List Int} (ha : a.length ≤ 1000000) (hb : b.length ≤ 1000000) (h : textB a = textB b) : a = b :=
  (numB_cut (by omega) (by omega) (by omega) (by omega) h).2
theorem comB_inj {s t : Int} (hs0 : 0 ≤ s) (hs1 : s ≤ 18446744073709551615) (ht0 : 0 ≤ t) (ht1 : t ≤ 18446744073709551615) {a b : List Int} (ha : a.length ≤ 1000000) (hb : b.length ≤ 1000000) (h : comB s a = comB t b) : s = t ∧ a = b := by
  injection h with _ h
  obtain ⟨h1, h2⟩ := numB_cut hs0 hs1 ht0 ht1 h
  exact ⟨h1, textB_inj ha hb h2⟩
theorem link_ne {seq : Int} {p q : List Int} {s : Int} {a : List Int} : linkB seq p q ≠ comB s a := by
  intro h
  injection h with h _
  exact absurd h (by decide)
end Go.Proofs.Ytbebkogkeepfoaa.Com
/- CommitBinds: the law's walk (under way). -/
namespace Go.Proofs.Ytbebkogkeepfoaa.Com
set_option linter.unusedVariables false
set_option linter.unusedSimpArgs false
open Go.RowKit Go.Proofs.Ytbebkogkeepfoaa.Base Go.Proofs.Ytbebkogkeepfoaa.TlvPlain Go.Proofs.Ytbebkogkeepfoaa.ShaPlain Go.Proofs.Ytbebkogkeepfoaa.Sha Go.Proofs.Ytbebkogkeepfoaa.Lo Go.Proofs.Ytbebkogkeepfoaa.Aid Go.Proofs.YtbebkogkeepfoaaW.PrintWords Go.Proofs.YtbebkogkeepfoaaW.PrintLast Go.Proofs.YtbebkogkeepfoaaW.PrintMore
/-- The one who asks with too long a payload. -/
def Long (a b : List Int) : Prop := 1000 < a.length ∨ 1000 < b.length
set_option maxHeartbeats 4000000 in
set_option maxRecDepth 100000 in
theorem binds_long (w : World) (s t : Int) (A1 A2 : Option Addr) (c1 c2 : Nat) (a b : List Int) (seq : Int) (P : Array Value) (hl : Long a b) :
    Calls Try.prog 8 #[.agg #[.int .u64 s, .int .u64 t, .slice A1 a.length c1, .slice A2 b.length c2], .int .i64 seq, .agg P] w fun e w' => e = .returned (.bool true) ∧ Below w.heap.size w w' := by
  have HB := Aside0.mk (below_alloc (below_alloc (Below.refl w.heap.size w) (.cells #[.int .u64 s, .int .u64 t, .slice A1 a.length c1, .slice A2 b.length c2] 47)) (.cells P 24))
  by_cases h1 : 1000 < a.length
  · have hd : decide ((1000 : Int) < (a.length : Int)) = true := decide_eq_true (by omega)
    clear hl h1
    go_enter Try.func8, Try.ntmps8
    go_wp2_with (fail)
    refine (live7_c _).mono ?_
    rintro e w' ⟨rfl, hb⟩
    have n1_ := Aside0.mk (below_step HB.out hb); clear HB; have HB := n1_; clear n1_
    clear hb
    go_wp2_with (fail)
    go_ret
    exact ⟨rfl, HB.out⟩
  · have hd : decide ((1000 : Int) < (a.length : Int)) = false := decide_eq_false (by omega)
    have hd2 : decide ((1000 : Int) < (b.length : Int)) = true := decide_eq_true (by rcases hl with h | h <;> omega)
    clear hl h1
    go_enter Try.func8, Try.ntmps8
    go_wp2_with (fail)
    refine (live7_c _).mono ?_
    rintro e w' ⟨rfl, hb⟩
    have n1_ := Aside0.mk (below_step HB.out hb); clear HB; have HB := n1_; clear n1_
    clear hb
    go_wp2_with (fail)
    go_ret
    exact ⟨rfl, HB.out⟩
end Go.Proofs.Ytbebkogkeepfoaa.Com
/- CommitBinds: the law's walk where both payloads are short (printed by gen_binds.py). -/
namespace Go.Proofs.Ytbebkogkeepfoaa.Com
set_option linter.unusedVariables false
set_option linter.unusedSimpArgs false
open Go.RowKit Go.Proofs.Ytbebkogkeepfoaa.Base Go.Proofs.Ytbebkogkeepfoaa.TlvPlain Go.Proofs.Ytbebkogkeepfoaa.ShaPlain Go.Proofs.Ytbebkogkeepfoaa.Sha Go.Proofs.Ytbebkogkeepfoaa.Lo Go.Proofs.Ytbebkogkeepfoaa.Aid Go.Proofs.YtbebkogkeepfoaaW.PrintWords Go.Proofs.YtbebkogkeepfoaaW.PrintLast Go.Proofs.YtbebkogkeepfoaaW.PrintMore
/-- A block's cells. -/
def Blk (w : World) (g T : Nat) (cs : Array Value) : Prop := w.heap[g]? = some (.cells cs T (0, 0))
theorem Blk.below {w w' : World} {g T : Nat} {cs : Array Value} (h : Blk w g T cs) (hb : Below w.heap.size w w') : Blk w' g T cs := blk_below h hb
theorem Blk.alloc {w : World} {g T : Nat} {cs : Array Value} (h : Blk w g T cs) (o : Obj) : Blk (w.alloc o) g T cs := blk_alloc h o
theorem Blk.lt {w : World} {g T : Nat} {cs : Array Value} (h : Blk w g T cs) : g < w.heap.size := by
  unfold Blk at h
  exact (Array.getElem?_eq_some_iff.1 h).1
theorem Blk.range {w : World} {g T : Nat} {cs : List Value} (h : Blk w g T cs.toArray) : w.rangeAt g 0 cs := range_blk h
theorem Blk.setSame {w : World} {g T : Nat} {cs ds : Array Value} (h : Blk w g T cs) : Blk (w.setRow g ds) g T ds := setRow_heap w g cs ds _ _ h
theorem Blk.setOther {w : World} {g g' T : Nat} {cs ds : Array Value} (h : Blk w g T cs) (hn : g' ≠ g) : Blk (w.setRow g' ds) g T cs := by
  unfold Blk at h ⊢
  rw [setRow_other w g' g ds (fun e => hn e.symm)]
  exact h
theorem two_cells {w : World} {g T : Nat} {v0 v1 v2 v3 : Value} (h : Blk w g T #[v0, v1, v2, v3]) : w.cell? ⟨g, 0, none⟩ = some v0 ∧ w.cell? ⟨g, 0 + 1, none⟩ = some v1 ∧ w.cell? ⟨g, 0 + 2, none⟩ = some v2 ∧ w.cell? ⟨g, 0 + 3, none⟩ = some v3 := by
  refine ⟨?_, ?_, ?_, ?_⟩ <;> (rw [blk_cell h]; rfl)
set_option maxHeartbeats 16000000 in
set_option maxRecDepth 100000 in
theorem binds_short (w : World) (s t : Int) (hs0 : 0 ≤ s) (hs1 : s ≤ 18446744073709551615) (ht0 : 0 ≤ t) (ht1 : t ≤ 18446744073709551615) (A1 A2 : Option Addr) (c1 c2 : Nat) (a b : List Int) (hr1 : Rb w A1 a) (hr2 : Rb w A2 b) (hc1 : a.length ≤ c1) (hc2 : b.length ≤ c2) (hu1 : U8 a) (hu2 : U8 b) (hl1 : a.length ≤ 1000) (hl2 : b.length ≤ 1000) (seq : Int) (p : List Int) (hp : p.length = 32) (hpu : U8 p) :
    Calls Try.prog 8 #[.agg #[.int .u64 s, .int .u64 t, .slice A1 a.length c1, .slice A2 b.length c2], .int .i64 seq, .agg (nums .u8 p).toArray] w fun e w' => e = .returned (.bool true) ∧ Below w.heap.size w w' := by
  have hd1 : decide ((1000 : Int) < (a.length : Int)) = false := decide_eq_false (by omega)
  have hd2 : decide ((1000 : Int) < (b.length : Int)) = false := decide_eq_false (by omega)
  have HR1 := Aside0.mk hr1
  have HR2 := Aside0.mk hr2
  obtain ⟨D1, hD1⟩ : ∃ D, nums .u8 (shaB (comB s a)) = D := ⟨_, rfl⟩
  obtain ⟨D2, hD2⟩ : ∃ D, nums .u8 (shaB (comB t b)) = D := ⟨_, rfl⟩
  obtain ⟨D3, hD3⟩ : ∃ D, nums .u8 (shaB (linkB seq p (shaB (comB s a)))) = D := ⟨_, rfl⟩
  obtain ⟨P, hP⟩ : ∃ P, nums .u8 p = P := ⟨_, rfl⟩
  have n1 : D1.length = 32 := by rw [← hD1]; simp [nums, shaB_len]
  have n2 : D2.length = 32 := by rw [← hD2]; simp [nums, shaB_len]
  have n3 : D3.length = 32 := by rw [← hD3]; simp [nums, shaB_len]
  have n4 : P.length = 32 := by rw [← hP]; simp [nums, hp]
  have HI1 := Aside0.mk (size_32 n1)
  have HI2 := Aside0.mk (size_32 n2)
  have HI3 := Aside0.mk (size_32 n3)
  have HIP := Aside0.mk (size_32 n4)
  have HIA1 := Aside0.mk (show (Try.prog.info? 24).map (·.size) = some D1.toArray.size by simp only [List.size_toArray]; exact HI1.out)
  have HIA2 := Aside0.mk (show (Try.prog.info? 24).map (·.size) = some D2.toArray.size by simp only [List.size_toArray]; exact HI2.out)
  have HIA3 := Aside0.mk (show (Try.prog.info? 24).map (·.size) = some D3.toArray.size by simp only [List.size_toArray]; exact HI3.out)
  have HIAP := Aside0.mk (show (Try.prog.info? 24).map (·.size) = some P.toArray.size by simp only [List.size_toArray]; exact HIP.out)
  have HSZ1 := Aside0.mk (show Z32.size = D1.toArray.size by simp [Z32, nums, n1])
  have HSZ2 := Aside0.mk (show Z32.size = D2.toArray.size by simp [Z32, nums, n2])
  have HSZ3 := Aside0.mk (show Z32.size = D3.toArray.size by simp [Z32, nums, n3])
  have HONE1 := Aside0.mk (show D1.toArray.all (·.oneCell') = true by rw [← hD1]; exact nums_one _ _)
  have HONE2 := Aside0.mk (show D2.toArray.all (·.oneCell') = true by rw [← hD2]; exact nums_one _ _)
  have HONE3 := Aside0.mk (show D3.toArray.all (·.oneCell') = true by rw [← hD3]; exact nums_one _ _)
  have HOF1 := Aside0.mk (fun W (hW : Rb W A1 a) => cof_c s hs0 hs1 A1 c1 a W hW hc1 hu1 (by omega))
  have HOF2 := Aside0.mk (fun W (hW : Rb W A2 b) => cof_c t ht0 ht1 A2 c2 b W hW hc2 hu2 (by omega))
  have HLK := Aside0.mk (link_c seq p (shaB (comB s a)) hp (shaB_len _) hpu (shaB_u8 _))
  have HTX1 := Aside0.mk (fun W (hW : Rb W A1 a) => rtxt_c s hs0 hs1 A1 c1 a W hW hc1 (by omega))
  have HTX2 := Aside0.mk (fun W (hW : Rb W A2 b) => rtxt_c t ht0 ht1 A2 c2 b W hW hc2 (by omega))
  have HLT := Aside0.mk (ltext_c seq p (shaB (comB s a)) hp (shaB_len _))
  have HSM := Aside0.mk (fun W (h1 : Rb W A1 a) (h2 : Rb W A2 b) => same_c A1 c1 a A2 c2 b W h1 hc1 h2 hc2 (by omega))
  simp only [sumV] at HOF1 HOF2 HLK
  rw [hD1] at HOF1 HLK HLT
  rw [hP] at HLK HLT
  rw [hD2] at HOF2
  rw [hD3] at HLK
  rw [hP]
  have HD1 := Aside0.mk hD1
  have HD2 := Aside0.mk hD2
  have HD3 := Aside0.mk hD3
  have HCX := Aside0.mk (And.intro (And.intro hs0 hs1) (And.intro (And.intro ht0 ht1) (And.intro (And.intro hu1 hu2) (And.intro (And.intro hl1 hl2) (And.intro hp hpu)))))
  clear hr1 hr2 hc1 hc2 hu1 hu2 hl1 hl2 hs0 hs1 ht0 ht1 hp hpu hD1 hD2 hD3 hP n1 n2 n3 n4
  have HT0 := Aside0.mk (show Blk ((w.alloc (.cells #[.int .u64 s, .int .u64 t, .slice A1 a.length c1, .slice A2 b.length c2] 47)).alloc (.cells P.toArray 24)) w.heap.size 47 #[.int .u64 s, .int .u64 t, .slice A1 a.length c1, .slice A2 b.length c2] from blk_alloc (blk_new _ _) _)
  have HP0 := Aside0.mk (show Blk ((w.alloc (.cells #[.int .u64 s, .int .u64 t, .slice A1 a.length c1, .slice A2 b.length c2] 47)).alloc (.cells P.toArray 24)) (w.heap.size + 1) 24 P.toArray from second_new' _ _ _)
  have HB0 := Aside0.mk (below_alloc (below_alloc (Below.refl w.heap.size w) (.cells #[.int .u64 s, .int .u64 t, .slice A1 a.length c1, .slice A2 b.length c2] 47)) (.cells P.toArray 24))
  go_enter Try.func8, Try.ntmps8
  go_upto_region 3 with (fail)
  obtain ⟨g, hg⟩ : ∃ g, w.heap.size = g := ⟨_, rfl⟩
  obtain ⟨q, hq⟩ : ∃ q, w.heap.size + 1 = q := ⟨_, rfl⟩
  obtain ⟨W, hW⟩ : ∃ W, (w.alloc (.cells #[.int .u64 s, .int .u64 t, .slice A1 a.length c1, .slice A2 b.length c2] 47)).alloc (.cells P.toArray 24) = W := ⟨_, rfl⟩
  have HGQ := Aside0.mk (show w.heap.size ≤ g ∧ w.heap.size ≤ q ∧ g ≠ q by omega)
  rw [hW] at HT0 HP0 HB0 ⊢
  rw [hq] at HP0 ⊢
  rw [hg] at HT0 ⊢
  clear hW hq hg
  go_cut [7, 8] from 25 to 34 (fun s7 s8 wx => ∃ x y, s7 = .pointer (some ⟨x, 0, none⟩) ∧ s8 = .pointer (some ⟨y, 0, none⟩) ∧ Blk wx x 24 D1.toArray ∧ Blk wx y 24 D2.toArray ∧ Blk wx g 47 #[.int .u64 s, .int .u64 t, .slice A1 a.length c1, .slice A2 b.length c2] ∧ Blk wx q 24 P.toArray ∧ Below w.heap.size w wx)
  case first =>
    have HT0d := Aside0.mk (HT0.out.below (below_drew1 (Below.refl W.heap.size W)))
    have HP0d := Aside0.mk (HP0.out.below (below_drew1 (Below.refl W.heap.size W)))
    have HB0d := Aside0.mk (below_drew1 HB0.out)
    clear HT0 HP0
    refine wp_region_held_drew (S := fun w' => w'.cell? ⟨g, 0, none⟩ = some (.int .u64 s) ∧ w'.cell? ⟨g, 0 + 1, none⟩ = some (.int .u64 t) ∧ w'.cell? ⟨g, 0 + 2, none⟩ = some (.slice A1 a.length c1) ∧ w'.cell? ⟨g, 0 + 3, none⟩ = some (.slice A2 b.length c2)) (by kernel_rfl) (two_cells HT0d.out) (fun hHeld => ?_)
    (refine wpAnyH_take (i := 0) (v := ?_) rfl (by kernel_rfl) (by kernel_rfl) (by kernel_rfl) (fun _ _ _ h => h) (Or.inl ⟨by rfl, ?_⟩) (by assumption) ?_; (case' refine_2 => (intro w hSw; go_simp; try with_reducible rfl)); (try simp only [Act.put, List.getElem_toArray, List.getElem_cons_zero, List.getElem_cons_succ, List.setIfInBounds_toArray, List.set_cons_zero, List.set_cons_succ]))
    (refine wpAnyH_take (i := 1) (v := ?_) rfl (by kernel_rfl) (by kernel_rfl) (by kernel_rfl) (fun _ _ _ h => h) (Or.inl ⟨by rfl, ?_⟩) (by assumption) ?_; (case' refine_2 => (intro w hSw; go_simp; try with_reducible rfl)); (try simp only [Act.put, List.getElem_toArray, List.getElem_cons_zero, List.getElem_cons_succ, List.setIfInBounds_toArray, List.set_cons_zero, List.set_cons_succ]))
    (refine wpAnyH_take (i := 2) (v := ?_) rfl (by kernel_rfl) (by kernel_rfl) (by kernel_rfl) (fun _ _ _ h => h) (Or.inl ⟨by rfl, ?_⟩) (by assumption) ?_; (case' refine_2 => (intro w hSw; go_simp; try with_reducible rfl)); (try simp only [Act.put, List.getElem_toArray, List.getElem_cons_zero, List.getElem_cons_succ, List.setIfInBounds_toArray, List.set_cons_zero, List.set_cons_succ]))
    (refine wpAnyH_take (i := 3) (v := ?_) rfl (by kernel_rfl) (by kernel_rfl) (by kernel_rfl) (fun _ _ _ h => h) (Or.inl ⟨by rfl, ?_⟩) (by assumption) ?_; (case' refine_2 => (intro w hSw; go_simp; try with_reducible rfl)); (try simp only [Act.put, List.getElem_toArray, List.getElem_cons_zero, List.getElem_cons_succ, List.setIfInBounds_toArray, List.set_cons_zero, List.set_cons_succ]))
    (refine wpAnyH_take (i := 5) (v := ?_) rfl (by kernel_rfl) (by kernel_rfl) (by kernel_rfl) (fun _ _ _ h => h) (Or.inl ⟨by rfl, ?_⟩) (by assumption) ?_; (case' refine_2 => (intro w hSw; go_simp; try with_reducible rfl)); (try simp only [Act.put, List.getElem_toArray, List.getElem_cons_zero, List.getElem_cons_succ, List.setIfInBounds_toArray, List.set_cons_zero, List.set_cons_succ]))
    (refine wpAnyH_take (i := 6) (v := ?_) rfl (by kernel_rfl) (by kernel_rfl) (by kernel_rfl) (fun _ _ _ h => h) (Or.inl ⟨by rfl, ?_⟩) (by assumption) ?_; (case' refine_2 => (intro w hSw; go_simp; try with_reducible rfl)); (try simp only [Act.put, List.getElem_toArray, List.getElem_cons_zero, List.getElem_cons_succ, List.setIfInBounds_toArray, List.set_cons_zero, List.set_cons_succ]))
    (refine wpAnyH_take (i := 7) (v := ?_) rfl (by kernel_rfl) (by kernel_rfl) (by kernel_rfl) (fun _ _ _ h => h) (Or.inl ⟨by rfl, ?_⟩) (by assumption) ?_; (case' refine_2 => (intro w hSw; go_simp; try with_reducible rfl)); (try simp only [Act.put, List.getElem_toArray, List.getElem_cons_zero, List.getElem_cons_succ, List.setIfInBounds_toArray, List.set_cons_zero, List.set_cons_succ]))
    (refine wpAnyH_take (i := 8) (v := ?_) rfl (by kernel_rfl) (by kernel_rfl) (by kernel_rfl) (fun _ _ _ h => h) (Or.inl ⟨by rfl, ?_⟩) (by assumption) ?_; (case' refine_2 => (intro w hSw; go_simp; try with_reducible rfl)); (try simp only [Act.put, List.getElem_toArray, List.getElem_cons_zero, List.getElem_cons_succ, List.setIfInBounds_toArray, List.set_cons_zero, List.set_cons_succ]))
    refine wpAnyH_ready (rs := [4, 10, 11]) (by kernel_rfl) (by simp) (AllReadyH.cons rfl (fun K hK => ?_) (AllReadyH.cons rfl (fun K hK => ?_) (AllReadyH.cons rfl (fun K hK => ?_) AllReadyH.nil)))
    ·
      go_simp
      refine (HOF1.out _ (Kd.C_below HR1.out HB0d.out)).mono ?_
      rintro e w1 ⟨rfl, hb⟩
      have HT1 := Aside0.mk (HT0d.out.below hb)
      have HP1 := Aside0.mk (HP0d.out.below hb)
      have HB1 := Aside0.mk (below_step HB0d.out hb)
      clear hb
      (refine Shut.out hK _ _ (two_cells HT1.out) (fun hHeld => ?_); clear hK K; (try simp only [Act.put, List.getElem_toArray, List.getElem_cons_zero, List.getElem_cons_succ, List.setIfInBounds_toArray, List.set_cons_zero, List.set_cons_succ]))
      refine wpAnyH_ready (rs := [9, 10, 11]) (by kernel_rfl) (by simp) (AllReadyH.cons rfl (fun K hK => ?_) (AllReadyH.cons rfl (fun K hK => ?_) (AllReadyH.cons rfl (fun K hK => ?_) AllReadyH.nil)))
      ·
        go_simp
        refine (HOF2.out _ (Kd.C_below HR2.out HB1.out)).mono ?_
        rintro e w2 ⟨rfl, hb⟩
        have HT2 := Aside0.mk (HT1.out.below hb)
        have HP2 := Aside0.mk (HP1.out.below hb)
        have HB2 := Aside0.mk (below_step HB1.out hb)
        clear hb
        (refine Shut.out hK _ _ (two_cells HT2.out) (fun hHeld => ?_); clear hK K; (try simp only [Act.put, List.getElem_toArray, List.getElem_cons_zero, List.getElem_cons_succ, List.setIfInBounds_toArray, List.set_cons_zero, List.set_cons_succ]))
        refine wpAnyH_ready (rs := [10, 11]) (by kernel_rfl) (by simp) (AllReadyH.cons rfl (fun K hK => ?_) (AllReadyH.cons rfl (fun K hK => ?_) AllReadyH.nil))
        ·
          go_simp
          have HT3 := Aside0.mk (show Blk (w2.alloc (.cells Z32 24)) g 47 #[.int .u64 s, .int .u64 t, .slice A1 a.length c1, .slice A2 b.length c2] from Blk.alloc HT2.out _)
          have HP3 := Aside0.mk (show Blk (w2.alloc (.cells Z32 24)) q 24 P.toArray from Blk.alloc HP2.out _)
          have HX3 := Aside0.mk (show Blk (w2.alloc (.cells Z32 24)) w2.heap.size 24 Z32 from blk_new w2 _)
          have HB3 := Aside0.mk (show Below w.heap.size w (w2.alloc (.cells Z32 24)) from below_alloc HB2.out _)
          have HLx := Aside0.mk (show w.heap.size ≤ w2.heap.size by have h1 : g < w2.heap.size := HT2.out.lt; have h3 := HGQ.out; omega)
          have HGx := Aside0.mk (show g ≠ w2.heap.size ∧ q ≠ w2.heap.size by have h1 : g < w2.heap.size := HT2.out.lt; have h2 : q < w2.heap.size := HP2.out.lt; omega)
          obtain ⟨x, hv⟩ : ∃ v, w2.heap.size = v := ⟨_, rfl⟩
          obtain ⟨w3, hw⟩ : ∃ V, (w2.alloc (.cells Z32 24)) = V := ⟨_, rfl⟩
          rw [hw] at HT3 HP3 HX3 HB3
          rw [hv] at HX3 HLx HGx
          rw [show (w2.alloc (.cells #[.int .u8 0, .int .u8 0, .int .u8 0, .int .u8 0, .int .u8 0, .int .u8 0, .int .u8 0, .int .u8 0, .int .u8 0, .int .u8 0, .int .u8 0, .int .u8 0, .int .u8 0, .int .u8 0, .int .u8 0, .int .u8 0, .int .u8 0, .int .u8 0, .int .u8 0, .int .u8 0, .int .u8 0, .int .u8 0, .int .u8 0, .int .u8 0, .int .u8 0, .int .u8 0, .int .u8 0, .int .u8 0, .int .u8 0, .int .u8 0, .int .u8 0, .int .u8 0] 24)) = w3 from hw, hv]
          clear hv hw
          (refine Shut.out hK _ _ (two_cells HT3.out) (fun hHeld => ?_); clear hK K; (try simp only [Act.put, List.getElem_toArray, List.getElem_cons_zero, List.getElem_cons_succ, List.setIfInBounds_toArray, List.set_cons_zero, List.set_cons_succ]))
          refine wpAnyH_ready (rs := [11]) (by kernel_rfl) (by simp) (AllReadyH.cons rfl (fun K hK => ?_) AllReadyH.nil)
          go_simp
          have HT4 := Aside0.mk (show Blk (w3.alloc (.cells Z32 24)) g 47 #[.int .u64 s, .int .u64 t, .slice A1 a.length c1, .slice A2 b.length c2] from Blk.alloc HT3.out _)
          have HP4 := Aside0.mk (show Blk (w3.alloc (.cells Z32 24)) q 24 P.toArray from Blk.alloc HP3.out _)
          have HX4 := Aside0.mk (show Blk (w3.alloc (.cells Z32 24)) x 24 Z32 from Blk.alloc HX3.out _)
          have HY4 := Aside0.mk (show Blk (w3.alloc (.cells Z32 24)) w3.heap.size 24 Z32 from blk_new w3 _)
          have HB4 := Aside0.mk (show Below w.heap.size w (w3.alloc (.cells Z32 24)) from below_alloc HB3.out _)
          have HLy := Aside0.mk (show w.heap.size ≤ w3.heap.size by have h1 : g < w3.heap.size := HT3.out.lt; have h3 := HGQ.out; omega)
          have HNE := Aside0.mk (show x ≠ w3.heap.size by have h1 : x < w3.heap.size := HX3.out.lt; omega)
          have HGy := Aside0.mk (show g ≠ w3.heap.size ∧ q ≠ w3.heap.size by have h1 : g < w3.heap.size := HT3.out.lt; have h2 : q < w3.heap.size := HP3.out.lt; omega)
          obtain ⟨y, hv⟩ : ∃ v, w3.heap.size = v := ⟨_, rfl⟩
          obtain ⟨w4, hw⟩ : ∃ V, (w3.alloc (.cells Z32 24)) = V := ⟨_, rfl⟩
          rw [hw] at HT4 HP4 HX4 HY4 HB4
          rw [hv] at HY4 HLy HGy HNE
          rw [show (w3.alloc (.cells #[.int .u8 0, .int .u8 0, .int .u8 0, .int .u8 0, .int .u8 0, .int .u8 0, .int .u8 0, .int .u8 0, .int .u8 0, .int .u8 0, .int .u8 0, .int .u8 0, .int .u8 0, .int .u8 0, .int .u8 0, .int .u8 0, .int .u8 0, .int .u8 0, .int .u8 0, .int .u8 0, .int .u8 0, .int .u8 0, .int .u8 0, .int .u8 0, .int .u8 0, .int .u8 0, .int .u8 0, .int .u8 0, .int .u8 0, .int .u8 0, .int .u8 0, .int .u8 0] 24)) = w4 from hw, hv]
          clear hv hw
          (refine Shut.out hK _ _ (two_cells HT4.out) (fun hHeld => ?_); clear hK K; (try simp only [Act.put, List.getElem_toArray, List.getElem_cons_zero, List.getElem_cons_succ, List.setIfInBounds_toArray, List.set_cons_zero, List.set_cons_succ]))
          refine wpAnyH_ready (rs := [12]) (by kernel_rfl) (by simp) (AllReadyH.cons rfl (fun K hK => ?_) AllReadyH.nil)
          rw [if_pos (by rfl)]
          refine wp_store_row 24 (.tmp 7) (.tmp 29) rfl x D1.toArray rfl rfl 24 Z32 HX4.out HIA1.out HSZ1.out HONE1.out ?_
          have HT5 := Aside0.mk (Blk.setOther (ds := D1.toArray) HT4.out (fun e => HGx.out.1 e.symm))
          have HP5 := Aside0.mk (Blk.setOther (ds := D1.toArray) HP4.out (fun e => HGx.out.2 e.symm))
          have HX5 := Aside0.mk (Blk.setSame (ds := D1.toArray) HX4.out)
          have HY5 := Aside0.mk (Blk.setOther (ds := D1.toArray) HY4.out (HNE.out))
          have HB5 := Aside0.mk (below_setRow HB4.out HLx.out D1.toArray)
          (refine Shut.out hK _ _ (two_cells HT5.out) (fun hHeld => ?_); clear hK K; (try simp only [Act.put, List.getElem_toArray, List.getElem_cons_zero, List.getElem_cons_succ, List.setIfInBounds_toArray, List.set_cons_zero, List.set_cons_succ]))
          refine wpAnyH_ready (rs := [13]) (by kernel_rfl) (by simp) (AllReadyH.cons rfl (fun K hK => ?_) AllReadyH.nil)
          rw [if_pos (by rfl)]
          refine wp_store_row 24 (.tmp 8) (.tmp 34) rfl y D2.toArray rfl rfl 24 Z32 HY5.out HIA2.out HSZ2.out HONE2.out ?_
          have HT6 := Aside0.mk (Blk.setOther (ds := D2.toArray) HT5.out (fun e => HGy.out.1 e.symm))
          have HP6 := Aside0.mk (Blk.setOther (ds := D2.toArray) HP5.out (fun e => HGy.out.2 e.symm))
          have HX6 := Aside0.mk (Blk.setOther (ds := D2.toArray) HX5.out (fun e => HNE.out e.symm))
          have HY6 := Aside0.mk (Blk.setSame (ds := D2.toArray) HY5.out)
          have HB6 := Aside0.mk (below_setRow HB5.out HLy.out D2.toArray)
          (refine Shut.out hK _ _ (two_cells HT6.out) (fun hHeld => ?_); clear hK K; (try simp only [Act.put, List.getElem_toArray, List.getElem_cons_zero, List.getElem_cons_succ, List.setIfInBounds_toArray, List.set_cons_zero, List.set_cons_succ]))
          refine wpAnyH_done (by kernel_rfl) ?_ _
          go_wp2_with (fail)
          go_meet
          case rel => exact ⟨x, y, rfl, rfl, HX6.out, HY6.out, HT6.out, HP6.out, HB6.out⟩
        ·
          go_simp
          have HT3 := Aside0.mk (show Blk (w2.alloc (.cells Z32 24)) g 47 #[.int .u64 s, .int .u64 t, .slice A1 a.length c1, .slice A2 b.length c2] from Blk.alloc HT2.out _)
          have HP3 := Aside0.mk (show Blk (w2.alloc (.cells Z32 24)) q 24 P.toArray from Blk.alloc HP2.out _)
          have HY3 := Aside0.mk (show Blk (w2.alloc (.cells Z32 24)) w2.heap.size 24 Z32 from blk_new w2 _)
          have HB3 := Aside0.mk (show Below w.heap.size w (w2.alloc (.cells Z32 24)) from below_alloc HB2.out _)
          have HLy := Aside0.mk (show w.heap.size ≤ w2.heap.size by have h1 : g < w2.heap.size := HT2.out.lt; have h3 := HGQ.out; omega)
          have HGy := Aside0.mk (show g ≠ w2.heap.size ∧ q ≠ w2.heap.size by have h1 : g < w2.heap.size := HT2.out.lt; have h2 : q < w2.heap.size := HP2.out.lt; omega)
          obtain ⟨y, hv⟩ : ∃ v, w2.heap.size = v := ⟨_, rfl⟩
          obtain ⟨w3, hw⟩ : ∃ V, (w2.alloc (.cells Z32 24)) = V := ⟨_, rfl⟩
          rw [hw] at HT3 HP3 HY3 HB3
          rw [hv] at HY3 HLy HGy
          rw [show (w2.alloc (.cells #[.int .u8 0, .int .u8 0, .int .u8 0, .int .u8 0, .int .u8 0, .int .u8 0, .int .u8 0, .int .u8 0, .int .u8 0, .int .u8 0, .int .u8 0, .int .u8 0, .int .u8 0, .int .u8 0, .int .u8 0, .int .u8 0, .int .u8 0, .int .u8 0, .int .u8 0, .int .u8 0, .int .u8 0, .int .u8 0, .int .u8 0, .int .u8 0, .int .u8 0, .int .u8 0, .int .u8 0, .int .u8 0, .int .u8 0, .int .u8 0, .int .u8 0, .int .u8 0] 24)) = w3 from hw, hv]
          clear hv hw
          (refine Shut.out hK _ _ (two_cells HT3.out) (fun hHeld => ?_); clear hK K; (try simp only [Act.put, List.getElem_toArray, List.getElem_cons_zero, List.getElem_cons_succ, List.setIfInBounds_toArray, List.set_cons_zero, List.set_cons_succ]))
          refine wpAnyH_ready (rs := [10]) (by kernel_rfl) (by simp) (AllReadyH.cons rfl (fun K hK => ?_) AllReadyH.nil)
          go_simp
          have HT4 := Aside0.mk (show Blk (w3.alloc (.cells Z32 24)) g 47 #[.int .u64 s, .int .u64 t, .slice A1 a.length c1, .slice A2 b.length c2] from Blk.alloc HT3.out _)
          have HP4 := Aside0.mk (show Blk (w3.alloc (.cells Z32 24)) q 24 P.toArray from Blk.alloc HP3.out _)
          have HY4 := Aside0.mk (show Blk (w3.alloc (.cells Z32 24)) y 24 Z32 from Blk.alloc HY3.out _)
          have HX4 := Aside0.mk (show Blk (w3.alloc (.cells Z32 24)) w3.heap.size 24 Z32 from blk_new w3 _)
          have HB4 := Aside0.mk (show Below w.heap.size w (w3.alloc (.cells Z32 24)) from below_alloc HB3.out _)
          have HLx := Aside0.mk (show w.heap.size ≤ w3.heap.size by have h1 : g < w3.heap.size := HT3.out.lt; have h3 := HGQ.out; omega)
          have HNE := Aside0.mk (show w3.heap.size ≠ y by have h1 : y < w3.heap.size := HY3.out.lt; omega)
          have HGx := Aside0.mk (show g ≠ w3.heap.size ∧ q ≠ w3.heap.size by have h1 : g < w3.heap.size := HT3.out.lt; have h2 : q < w3.heap.size := HP3.out.lt; omega)
          obtain ⟨x, hv⟩ : ∃ v, w3.heap.size = v := ⟨_, rfl⟩
          obtain ⟨w4, hw⟩ : ∃ V, (w3.alloc (.cells Z32 24)) = V := ⟨_, rfl⟩
          rw [hw] at HT4 HP4 HY4 HX4 HB4
          rw [hv] at HX4 HLx HGx HNE
          rw [show (w3.alloc (.cells #[.int .u8 0, .int .u8 0, .int .u8 0, .int .u8 0, .int .u8 0, .int .u8 0, .int .u8 0, .int .u8 0, .int .u8 0, .int .u8 0, .int .u8 0, .int .u8 0, .int .u8 0, .int .u8 0, .int .u8 0, .int .u8 0, .int .u8 0, .int .u8 0, .int .u8 0, .int .u8 0, .int .u8 0, .int .u8 0, .int .u8 0, .int .u8 0, .int .u8 0, .int .u8 0, .int .u8 0, .int .u8 0, .int .u8 0, .int .u8 0, .int .u8 0, .int .u8 0] 24)) = w4 from hw, hv]
          clear hv hw
          (refine Shut.out hK _ _ (two_cells HT4.out) (fun hHeld => ?_); clear hK K; (try simp only [Act.put, List.getElem_toArray, List.getElem_cons_zero, List.getElem_cons_succ, List.setIfInBounds_toArray, List.set_cons_zero, List.set_cons_succ]))
          refine wpAnyH_ready (rs := [12]) (by kernel_rfl) (by simp) (AllReadyH.cons rfl (fun K hK => ?_) AllReadyH.nil)
          rw [if_pos (by rfl)]
          refine wp_store_row 24 (.tmp 7) (.tmp 29) rfl x D1.toArray rfl rfl 24 Z32 HX4.out HIA1.out HSZ1.out HONE1.out ?_
          have HT5 := Aside0.mk (Blk.setOther (ds := D1.toArray) HT4.out (fun e => HGx.out.1 e.symm))
          have HP5 := Aside0.mk (Blk.setOther (ds := D1.toArray) HP4.out (fun e => HGx.out.2 e.symm))
          have HX5 := Aside0.mk (Blk.setSame (ds := D1.toArray) HX4.out)
          have HY5 := Aside0.mk (Blk.setOther (ds := D1.toArray) HY4.out (HNE.out))
          have HB5 := Aside0.mk (below_setRow HB4.out HLx.out D1.toArray)
          (refine Shut.out hK _ _ (two_cells HT5.out) (fun hHeld => ?_); clear hK K; (try simp only [Act.put, List.getElem_toArray, List.getElem_cons_zero, List.getElem_cons_succ, List.setIfInBounds_toArray, List.set_cons_zero, List.set_cons_succ]))
          refine wpAnyH_ready (rs := [13]) (by kernel_rfl) (by simp) (AllReadyH.cons rfl (fun K hK => ?_) AllReadyH.nil)
          rw [if_pos (by rfl)]
          refine wp_store_row 24 (.tmp 8) (.tmp 34) rfl y D2.toArray rfl rfl 24 Z32 HY5.out HIA2.out HSZ2.out HONE2.out ?_
          have HT6 := Aside0.mk (Blk.setOther (ds := D2.toArray) HT5.out (fun e => HGy.out.1 e.symm))
          have HP6 := Aside0.mk (Blk.setOther (ds := D2.toArray) HP5.out (fun e => HGy.out.2 e.symm))
          have HX6 := Aside0.mk (Blk.setOther (ds := D2.toArray) HX5.out (fun e => HNE.out e.symm))
          have HY6 := Aside0.mk (Blk.setSame (ds := D2.toArray) HY5.out)
          have HB6 := Aside0.mk (below_setRow HB5.out HLy.out D2.toArray)
          (refine Shut.out hK _ _ (two_cells HT6.out) (fun hHeld => ?_); clear hK K; (try simp only [Act.put, List.getElem_toArray, List.getElem_cons_zero, List.getElem_cons_succ, List.setIfInBounds_toArray, List.set_cons_zero, List.set_cons_succ]))
          refine wpAnyH_done (by kernel_rfl) ?_ _
          go_wp2_with (fail)
          go_meet
          case rel => exact ⟨x, y, rfl, rfl, HX6.out, HY6.out, HT6.out, HP6.out, HB6.out⟩
      ·
        go_simp
        have HT2 := Aside0.mk (show Blk (w1.alloc (.cells Z32 24)) g 47 #[.int .u64 s, .int .u64 t, .slice A1 a.length c1, .slice A2 b.length c2] from Blk.alloc HT1.out _)
        have HP2 := Aside0.mk (show Blk (w1.alloc (.cells Z32 24)) q 24 P.toArray from Blk.alloc HP1.out _)
        have HX2 := Aside0.mk (show Blk (w1.alloc (.cells Z32 24)) w1.heap.size 24 Z32 from blk_new w1 _)
        have HB2 := Aside0.mk (show Below w.heap.size w (w1.alloc (.cells Z32 24)) from below_alloc HB1.out _)
        have HLx := Aside0.mk (show w.heap.size ≤ w1.heap.size by have h1 : g < w1.heap.size := HT1.out.lt; have h3 := HGQ.out; omega)
        have HGx := Aside0.mk (show g ≠ w1.heap.size ∧ q ≠ w1.heap.size by have h1 : g < w1.heap.size := HT1.out.lt; have h2 : q < w1.heap.size := HP1.out.lt; omega)
        obtain ⟨x, hv⟩ : ∃ v, w1.heap.size = v := ⟨_, rfl⟩
        obtain ⟨w2, hw⟩ : ∃ V, (w1.alloc (.cells Z32 24)) = V := ⟨_, rfl⟩
        rw [hw] at HT2 HP2 HX2 HB2
        rw [hv] at HX2 HLx HGx
        rw [show (w1.alloc (.cells #[.int .u8 0, .int .u8 0, .int .u8 0, .int .u8 0, .int .u8 0, .int .u8 0, .int .u8 0, .int .u8 0, .int .u8 0, .int .u8 0, .int .u8 0, .int .u8 0, .int .u8 0, .int .u8 0, .int .u8 0, .int .u8 0, .int .u8 0, .int .u8 0, .int .u8 0, .int .u8 0, .int .u8 0, .int .u8 0, .int .u8 0, .int .u8 0, .int .u8 0, .int .u8 0, .int .u8 0, .int .u8 0, .int .u8 0, .int .u8 0, .int .u8 0, .int .u8 0] 24)) = w2 from hw, hv]
        clear hv hw
        (refine Shut.out hK _ _ (two_cells HT2.out) (fun hHeld => ?_); clear hK K; (try simp only [Act.put, List.getElem_toArray, List.getElem_cons_zero, List.getElem_cons_succ, List.setIfInBounds_toArray, List.set_cons_zero, List.set_cons_succ]))
        refine wpAnyH_ready (rs := [9, 11]) (by kernel_rfl) (by simp) (AllReadyH.cons rfl (fun K hK => ?_) (AllReadyH.cons rfl (fun K hK => ?_) AllReadyH.nil))
        ·
          go_simp
          refine (HOF2.out _ (Kd.C_below HR2.out HB2.out)).mono ?_
          rintro e w3 ⟨rfl, hb⟩
          have HT3 := Aside0.mk (HT2.out.below hb)
          have HP3 := Aside0.mk (HP2.out.below hb)
          have HX3 := Aside0.mk (HX2.out.below hb)
          have HB3 := Aside0.mk (below_step HB2.out hb)
          clear hb
          (refine Shut.out hK _ _ (two_cells HT3.out) (fun hHeld => ?_); clear hK K; (try simp only [Act.put, List.getElem_toArray, List.getElem_cons_zero, List.getElem_cons_succ, List.setIfInBounds_toArray, List.set_cons_zero, List.set_cons_succ]))
          refine wpAnyH_ready (rs := [11]) (by kernel_rfl) (by simp) (AllReadyH.cons rfl (fun K hK => ?_) AllReadyH.nil)
          go_simp
          have HT4 := Aside0.mk (show Blk (w3.alloc (.cells Z32 24)) g 47 #[.int .u64 s, .int .u64 t, .slice A1 a.length c1, .slice A2 b.length c2] from Blk.alloc HT3.out _)
          have HP4 := Aside0.mk (show Blk (w3.alloc (.cells Z32 24)) q 24 P.toArray from Blk.alloc HP3.out _)
          have HX4 := Aside0.mk (show Blk (w3.alloc (.cells Z32 24)) x 24 Z32 from Blk.alloc HX3.out _)
          have HY4 := Aside0.mk (show Blk (w3.alloc (.cells Z32 24)) w3.heap.size 24 Z32 from blk_new w3 _)
          have HB4 := Aside0.mk (show Below w.heap.size w (w3.alloc (.cells Z32 24)) from below_alloc HB3.out _)
          have HLy := Aside0.mk (show w.heap.size ≤ w3.heap.size by have h1 : g < w3.heap.size := HT3.out.lt; have h3 := HGQ.out; omega)
          have HNE := Aside0.mk (show x ≠ w3.heap.size by have h1 : x < w3.heap.size := HX3.out.lt; omega)
          have HGy := Aside0.mk (show g ≠ w3.heap.size ∧ q ≠ w3.heap.size by have h1 : g < w3.heap.size := HT3.out.lt; have h2 : q < w3.heap.size := HP3.out.lt; omega)
          obtain ⟨y, hv⟩ : ∃ v, w3.heap.size = v := ⟨_, rfl⟩
          obtain ⟨w4, hw⟩ : ∃ V, (w3.alloc (.cells Z32 24)) = V := ⟨_, rfl⟩
          rw [hw] at HT4 HP4 HX4 HY4 HB4
          rw [hv] at HY4 HLy HGy HNE
          rw [show (w3.alloc (.cells #[.int .u8 0, .int .u8 0, .int .u8 0, .int .u8 0, .int .u8 0, .int .u8 0, .int .u8 0, .int .u8 0, .int .u8 0, .int .u8 0, .int .u8 0, .int .u8 0, .int .u8 0, .int .u8 0, .int .u8 0, .int .u8 0, .int .u8 0, .int .u8 0, .int .u8 0, .int .u8 0, .int .u8 0, .int .u8 0, .int .u8 0, .int .u8 0, .int .u8 0, .int .u8 0, .int .u8 0, .int .u8 0, .int .u8 0, .int .u8 0, .int .u8 0, .int .u8 0] 24)) = w4 from hw, hv]
          clear hv hw
          (refine Shut.out hK _ _ (two_cells HT4.out) (fun hHeld => ?_); clear hK K; (try simp only [Act.put, List.getElem_toArray, List.getElem_cons_zero, List.getElem_cons_succ, List.setIfInBounds_toArray, List.set_cons_zero, List.set_cons_succ]))
          refine wpAnyH_ready (rs := [12]) (by kernel_rfl) (by simp) (AllReadyH.cons rfl (fun K hK => ?_) AllReadyH.nil)
          rw [if_pos (by rfl)]
          refine wp_store_row 24 (.tmp 7) (.tmp 29) rfl x D1.toArray rfl rfl 24 Z32 HX4.out HIA1.out HSZ1.out HONE1.out ?_
          have HT5 := Aside0.mk (Blk.setOther (ds := D1.toArray) HT4.out (fun e => HGx.out.1 e.symm))
          have HP5 := Aside0.mk (Blk.setOther (ds := D1.toArray) HP4.out (fun e => HGx.out.2 e.symm))
          have HX5 := Aside0.mk (Blk.setSame (ds := D1.toArray) HX4.out)
          have HY5 := Aside0.mk (Blk.setOther (ds := D1.toArray) HY4.out (HNE.out))
          have HB5 := Aside0.mk (below_setRow HB4.out HLx.out D1.toArray)
          (refine Shut.out hK _ _ (two_cells HT5.out) (fun hHeld => ?_); clear hK K; (try simp only [Act.put, List.getElem_toArray, List.getElem_cons_zero, List.getElem_cons_succ, List.setIfInBounds_toArray, List.set_cons_zero, List.set_cons_succ]))
          refine wpAnyH_ready (rs := [13]) (by kernel_rfl) (by simp) (AllReadyH.cons rfl (fun K hK => ?_) AllReadyH.nil)
          rw [if_pos (by rfl)]
          refine wp_store_row 24 (.tmp 8) (.tmp 34) rfl y D2.toArray rfl rfl 24 Z32 HY5.out HIA2.out HSZ2.out HONE2.out ?_
          have HT6 := Aside0.mk (Blk.setOther (ds := D2.toArray) HT5.out (fun e => HGy.out.1 e.symm))
          have HP6 := Aside0.mk (Blk.setOther (ds := D2.toArray) HP5.out (fun e => HGy.out.2 e.symm))
          have HX6 := Aside0.mk (Blk.setOther (ds := D2.toArray) HX5.out (fun e => HNE.out e.symm))
          have HY6 := Aside0.mk (Blk.setSame (ds := D2.toArray) HY5.out)
          have HB6 := Aside0.mk (below_setRow HB5.out HLy.out D2.toArray)
          (refine Shut.out hK _ _ (two_cells HT6.out) (fun hHeld => ?_); clear hK K; (try simp only [Act.put, List.getElem_toArray, List.getElem_cons_zero, List.getElem_cons_succ, List.setIfInBounds_toArray, List.set_cons_zero, List.set_cons_succ]))
          refine wpAnyH_done (by kernel_rfl) ?_ _
          go_wp2_with (fail)
          go_meet
          case rel => exact ⟨x, y, rfl, rfl, HX6.out, HY6.out, HT6.out, HP6.out, HB6.out⟩
        ·
          go_simp
          have HT3 := Aside0.mk (show Blk (w2.alloc (.cells Z32 24)) g 47 #[.int .u64 s, .int .u64 t, .slice A1 a.length c1, .slice A2 b.length c2] from Blk.alloc HT2.out _)
          have HP3 := Aside0.mk (show Blk (w2.alloc (.cells Z32 24)) q 24 P.toArray from Blk.alloc HP2.out _)
          have HX3 := Aside0.mk (show Blk (w2.alloc (.cells Z32 24)) x 24 Z32 from Blk.alloc HX2.out _)
          have HY3 := Aside0.mk (show Blk (w2.alloc (.cells Z32 24)) w2.heap.size 24 Z32 from blk_new w2 _)
          have HB3 := Aside0.mk (show Below w.heap.size w (w2.alloc (.cells Z32 24)) from below_alloc HB2.out _)
          have HLy := Aside0.mk (show w.heap.size ≤ w2.heap.size by have h1 : g < w2.heap.size := HT2.out.lt; have h3 := HGQ.out; omega)
          have HNE := Aside0.mk (show x ≠ w2.heap.size by have h1 : x < w2.heap.size := HX2.out.lt; omega)
          have HGy := Aside0.mk (show g ≠ w2.heap.size ∧ q ≠ w2.heap.size by have h1 : g < w2.heap.size := HT2.out.lt; have h2 : q < w2.heap.size := HP2.out.lt; omega)
          obtain ⟨y, hv⟩ : ∃ v, w2.heap.size = v := ⟨_, rfl⟩
          obtain ⟨w3, hw⟩ : ∃ V, (w2.alloc (.cells Z32 24)) = V := ⟨_, rfl⟩
          rw [hw] at HT3 HP3 HX3 HY3 HB3
          rw [hv] at HY3 HLy HGy HNE
          rw [show (w2.alloc (.cells #[.int .u8 0, .int .u8 0, .int .u8 0, .int .u8 0, .int .u8 0, .int .u8 0, .int .u8 0, .int .u8 0, .int .u8 0, .int .u8 0, .int .u8 0, .int .u8 0, .int .u8 0, .int .u8 0, .int .u8 0, .int .u8 0, .int .u8 0, .int .u8 0, .int .u8 0, .int .u8 0, .int .u8 0, .int .u8 0, .int .u8 0, .int .u8 0, .int .u8 0, .int .u8 0, .int .u8 0, .int .u8 0, .int .u8 0, .int .u8 0, .int .u8 0, .int .u8 0] 24)) = w3 from hw, hv]
          clear hv hw
          (refine Shut.out hK _ _ (two_cells HT3.out) (fun hHeld => ?_); clear hK K; (try simp only [Act.put, List.getElem_toArray, List.getElem_cons_zero, List.getElem_cons_succ, List.setIfInBounds_toArray, List.set_cons_zero, List.set_cons_succ]))
          refine wpAnyH_ready (rs := [9]) (by kernel_rfl) (by simp) (AllReadyH.cons rfl (fun K hK => ?_) AllReadyH.nil)
          go_simp
          refine (HOF2.out _ (Kd.C_below HR2.out HB3.out)).mono ?_
          rintro e w4 ⟨rfl, hb⟩
          have HT4 := Aside0.mk (HT3.out.below hb)
          have HP4 := Aside0.mk (HP3.out.below hb)
          have HX4 := Aside0.mk (HX3.out.below hb)
          have HY4 := Aside0.mk (HY3.out.below hb)
          have HB4 := Aside0.mk (below_step HB3.out hb)
          clear hb
          (refine Shut.out hK _ _ (two_cells HT4.out) (fun hHeld => ?_); clear hK K; (try simp only [Act.put, List.getElem_toArray, List.getElem_cons_zero, List.getElem_cons_succ, List.setIfInBounds_toArray, List.set_cons_zero, List.set_cons_succ]))
          refine wpAnyH_ready (rs := [12]) (by kernel_rfl) (by simp) (AllReadyH.cons rfl (fun K hK => ?_) AllReadyH.nil)
          rw [if_pos (by rfl)]
          refine wp_store_row 24 (.tmp 7) (.tmp 29) rfl x D1.toArray rfl rfl 24 Z32 HX4.out HIA1.out HSZ1.out HONE1.out ?_
          have HT5 := Aside0.mk (Blk.setOther (ds := D1.toArray) HT4.out (fun e => HGx.out.1 e.symm))
          have HP5 := Aside0.mk (Blk.setOther (ds := D1.toArray) HP4.out (fun e => HGx.out.2 e.symm))
          have HX5 := Aside0.mk (Blk.setSame (ds := D1.toArray) HX4.out)
          have HY5 := Aside0.mk (Blk.setOther (ds := D1.toArray) HY4.out (HNE.out))
          have HB5 := Aside0.mk (below_setRow HB4.out HLx.out D1.toArray)
          (refine Shut.out hK _ _ (two_cells HT5.out) (fun hHeld => ?_); clear hK K; (try simp only [Act.put, List.getElem_toArray, List.getElem_cons_zero, List.getElem_cons_succ, List.setIfInBounds_toArray, List.set_cons_zero, List.set_cons_succ]))
          refine wpAnyH_ready (rs := [13]) (by kernel_rfl) (by simp) (AllReadyH.cons rfl (fun K hK => ?_) AllReadyH.nil)
          rw [if_pos (by rfl)]
          refine wp_store_row 24 (.tmp 8) (.tmp 34) rfl y D2.toArray rfl rfl 24 Z32 HY5.out HIA2.out HSZ2.out HONE2.out ?_
          have HT6 := Aside0.mk (Blk.setOther (ds := D2.toArray) HT5.out (fun e => HGy.out.1 e.symm))
          have HP6 := Aside0.mk (Blk.setOther (ds := D2.toArray) HP5.out (fun e => HGy.out.2 e.symm))
          have HX6 := Aside0.mk (Blk.setOther (ds := D2.toArray) HX5.out (fun e => HNE.out e.symm))
          have HY6 := Aside0.mk (Blk.setSame (ds := D2.toArray) HY5.out)
          have HB6 := Aside0.mk (below_setRow HB5.out HLy.out D2.toArray)
          (refine Shut.out hK _ _ (two_cells HT6.out) (fun hHeld => ?_); clear hK K; (try simp only [Act.put, List.getElem_toArray, List.getElem_cons_zero, List.getElem_cons_succ, List.setIfInBounds_toArray, List.set_cons_zero, List.set_cons_succ]))
          refine wpAnyH_done (by kernel_rfl) ?_ _
          go_wp2_with (fail)
          go_meet
          case rel => exact ⟨x, y, rfl, rfl, HX6.out, HY6.out, HT6.out, HP6.out, HB6.out⟩
      ·
        go_simp
        have HT2 := Aside0.mk (show Blk (w1.alloc (.cells Z32 24)) g 47 #[.int .u64 s, .int .u64 t, .slice A1 a.length c1, .slice A2 b.length c2] from Blk.alloc HT1.out _)
        have HP2 := Aside0.mk (show Blk (w1.alloc (.cells Z32 24)) q 24 P.toArray from Blk.alloc HP1.out _)
        have HY2 := Aside0.mk (show Blk (w1.alloc (.cells Z32 24)) w1.heap.size 24 Z32 from blk_new w1 _)
        have HB2 := Aside0.mk (show Below w.heap.size w (w1.alloc (.cells Z32 24)) from below_alloc HB1.out _)
        have HLy := Aside0.mk (show w.heap.size ≤ w1.heap.size by have h1 : g < w1.heap.size := HT1.out.lt; have h3 := HGQ.out; omega)
        have HGy := Aside0.mk (show g ≠ w1.heap.size ∧ q ≠ w1.heap.size by have h1 : g < w1.heap.size := HT1.out.lt; have h2 : q < w1.heap.size := HP1.out.lt; omega)
        obtain ⟨y, hv⟩ : ∃ v, w1.heap.size = v := ⟨_, rfl⟩
        obtain ⟨w2, hw⟩ : ∃ V, (w1.alloc (.cells Z32 24)) = V := ⟨_, rfl⟩
        rw [hw] at HT2 HP2 HY2 HB2
        rw [hv] at HY2 HLy HGy
        rw [show (w1.alloc (.cells #[.int .u8 0, .int .u8 0, .int .u8 0, .int .u8 0, .int .u8 0, .int .u8 0, .int .u8 0, .int .u8 0, .int .u8 0, .int .u8 0, .int .u8 0, .int .u8 0, .int .u8 0, .int .u8 0, .int .u8 0, .int .u8 0, .int .u8 0, .int .u8 0, .int .u8 0, .int .u8 0, .int .u8 0, .int .u8 0, .int .u8 0, .int .u8 0, .int .u8 0, .int .u8 0, .int .u8 0, .int .u8 0, .int .u8 0, .int .u8 0, .int .u8 0, .int .u8 0] 24)) = w2 from hw, hv]
        clear hv hw
        (refine Shut.out hK _ _ (two_cells HT2.out) (fun hHeld => ?_); clear hK K; (try simp only [Act.put, List.getElem_toArray, List.getElem_cons_zero, List.getElem_cons_succ, List.setIfInBounds_toArray, List.set_cons_zero, List.set_cons_succ]))
        refine wpAnyH_ready (rs := [9, 10]) (by kernel_rfl) (by simp) (AllReadyH.cons rfl (fun K hK => ?_) (AllReadyH.cons rfl (fun K hK => ?_) AllReadyH.nil))
        ·
          go_simp
          refine (HOF2.out _ (Kd.C_below HR2.out HB2.out)).mono ?_
          rintro e w3 ⟨rfl, hb⟩
          have HT3 := Aside0.mk (HT2.out.below hb)
          have HP3 := Aside0.mk (HP2.out.below hb)
          have HY3 := Aside0.mk (HY2.out.below hb)
          have HB3 := Aside0.mk (below_step HB2.out hb)
          clear hb
          (refine Shut.out hK _ _ (two_cells HT3.out) (fun hHeld => ?_); clear hK K; (try simp only [Act.put, List.getElem_toArray, List.getElem_cons_zero, List.getElem_cons_succ, List.setIfInBounds_toArray, List.set_cons_zero, List.set_cons_succ]))
          refine wpAnyH_ready (rs := [10]) (by kernel_rfl) (by simp) (AllReadyH.cons rfl (fun K hK => ?_) AllReadyH.nil)
          go_simp
          have HT4 := Aside0.mk (show Blk (w3.alloc (.cells Z32 24)) g 47 #[.int .u64 s, .int .u64 t, .slice A1 a.length c1, .slice A2 b.length c2] from Blk.alloc HT3.out _)
          have HP4 := Aside0.mk (show Blk (w3.alloc (.cells Z32 24)) q 24 P.toArray from Blk.alloc HP3.out _)
          have HY4 := Aside0.mk (show Blk (w3.alloc (.cells Z32 24)) y 24 Z32 from Blk.alloc HY3.out _)
          have HX4 := Aside0.mk (show Blk (w3.alloc (.cells Z32 24)) w3.heap.size 24 Z32 from blk_new w3 _)
          have HB4 := Aside0.mk (show Below w.heap.size w (w3.alloc (.cells Z32 24)) from below_alloc HB3.out _)
          have HLx := Aside0.mk (show w.heap.size ≤ w3.heap.size by have h1 : g < w3.heap.size := HT3.out.lt; have h3 := HGQ.out; omega)
          have HNE := Aside0.mk (show w3.heap.size ≠ y by have h1 : y < w3.heap.size := HY3.out.lt; omega)
          have HGx := Aside0.mk (show g ≠ w3.heap.size ∧ q ≠ w3.heap.size by have h1 : g < w3.heap.size := HT3.out.lt; have h2 : q < w3.heap.size := HP3.out.lt; omega)
          obtain ⟨x, hv⟩ : ∃ v, w3.heap.size = v := ⟨_, rfl⟩
          obtain ⟨w4, hw⟩ : ∃ V, (w3.alloc (.cells Z32 24)) = V := ⟨_, rfl⟩
          rw [hw] at HT4 HP4 HY4 HX4 HB4
          rw [hv] at HX4 HLx HGx HNE
          rw [show (w3.alloc (.cells #[.int .u8 0, .int .u8 0, .int .u8 0, .int .u8 0, .int .u8 0, .int .u8 0, .int .u8 0, .int .u8 0, .int .u8 0, .int .u8 0, .int .u8 0, .int .u8 0, .int .u8 0, .int .u8 0, .int .u8 0, .int .u8 0, .int .u8 0, .int .u8 0, .int .u8 0, .int .u8 0, .int .u8 0, .int .u8 0, .int .u8 0, .int .u8 0, .int .u8 0, .int .u8 0, .int .u8 0, .int .u8 0, .int .u8 0, .int .u8 0, .int .u8 0, .int .u8 0] 24)) = w4 from hw, hv]
          clear hv hw
          (refine Shut.out hK _ _ (two_cells HT4.out) (fun hHeld => ?_); clear hK K; (try simp only [Act.put, List.getElem_toArray, List.getElem_cons_zero, List.getElem_cons_succ, List.setIfInBounds_toArray, List.set_cons_zero, List.set_cons_succ]))
          refine wpAnyH_ready (rs := [12]) (by kernel_rfl) (by simp) (AllReadyH.cons rfl (fun K hK => ?_) AllReadyH.nil)
          rw [if_pos (by rfl)]
          refine wp_store_row 24 (.tmp 7) (.tmp 29) rfl x D1.toArray rfl rfl 24 Z32 HX4.out HIA1.out HSZ1.out HONE1.out ?_
          have HT5 := Aside0.mk (Blk.setOther (ds := D1.toArray) HT4.out (fun e => HGx.out.1 e.symm))
          have HP5 := Aside0.mk (Blk.setOther (ds := D1.toArray) HP4.out (fun e => HGx.out.2 e.symm))
          have HX5 := Aside0.mk (Blk.setSame (ds := D1.toArray) HX4.out)
          have HY5 := Aside0.mk (Blk.setOther (ds := D1.toArray) HY4.out (HNE.out))
          have HB5 := Aside0.mk (below_setRow HB4.out HLx.out D1.toArray)
          (refine Shut.out hK _ _ (two_cells HT5.out) (fun hHeld => ?_); clear hK K; (try simp only [Act.put, List.getElem_toArray, List.getElem_cons_zero, List.getElem_cons_succ, List.setIfInBounds_toArray, List.set_cons_zero, List.set_cons_succ]))
          refine wpAnyH_ready (rs := [13]) (by kernel_rfl) (by simp) (AllReadyH.cons rfl (fun K hK => ?_) AllReadyH.nil)
          rw [if_pos (by rfl)]
          refine wp_store_row 24 (.tmp 8) (.tmp 34) rfl y D2.toArray rfl rfl 24 Z32 HY5.out HIA2.out HSZ2.out HONE2.out ?_
          have HT6 := Aside0.mk (Blk.setOther (ds := D2.toArray) HT5.out (fun e => HGy.out.1 e.symm))
          have HP6 := Aside0.mk (Blk.setOther (ds := D2.toArray) HP5.out (fun e => HGy.out.2 e.symm))
          have HX6 := Aside0.mk (Blk.setOther (ds := D2.toArray) HX5.out (fun e => HNE.out e.symm))
          have HY6 := Aside0.mk (Blk.setSame (ds := D2.toArray) HY5.out)
          have HB6 := Aside0.mk (below_setRow HB5.out HLy.out D2.toArray)
          (refine Shut.out hK _ _ (two_cells HT6.out) (fun hHeld => ?_); clear hK K; (try simp only [Act.put, List.getElem_toArray, List.getElem_cons_zero, List.getElem_cons_succ, List.setIfInBounds_toArray, List.set_cons_zero, List.set_cons_succ]))
          refine wpAnyH_done (by kernel_rfl) ?_ _
          go_wp2_with (fail)
          go_meet
          case rel => exact ⟨x, y, rfl, rfl, HX6.out, HY6.out, HT6.out, HP6.out, HB6.out⟩
        ·
          go_simp
          have HT3 := Aside0.mk (show Blk (w2.alloc (.cells Z32 24)) g 47 #[.int .u64 s, .int .u64 t, .slice A1 a.length c1, .slice A2 b.length c2] from Blk.alloc HT2.out _)
          have HP3 := Aside0.mk (show Blk (w2.alloc (.cells Z32 24)) q 24 P.toArray from Blk.alloc HP2.out _)
          have HY3 := Aside0.mk (show Blk (w2.alloc (.cells Z32 24)) y 24 Z32 from Blk.alloc HY2.out _)
          have HX3 := Aside0.mk (show Blk (w2.alloc (.cells Z32 24)) w2.heap.size 24 Z32 from blk_new w2 _)
          have HB3 := Aside0.mk (show Below w.heap.size w (w2.alloc (.cells Z32 24)) from below_alloc HB2.out _)
          have HLx := Aside0.mk (show w.heap.size ≤ w2.heap.size by have h1 : g < w2.heap.size := HT2.out.lt; have h3 := HGQ.out; omega)
          have HNE := Aside0.mk (show w2.heap.size ≠ y by have h1 : y < w2.heap.size := HY2.out.lt; omega)
          have HGx := Aside0.mk (show g ≠ w2.heap.size ∧ q ≠ w2.heap.size by have h1 : g < w2.heap.size := HT2.out.lt; have h2 : q < w2.heap.size := HP2.out.lt; omega)
          obtain ⟨x, hv⟩ : ∃ v, w2.heap.size = v := ⟨_, rfl⟩
          obtain ⟨w3, hw⟩ : ∃ V, (w2.alloc (.cells Z32 24)) = V := ⟨_, rfl⟩
          rw [hw] at HT3 HP3 HY3 HX3 HB3
          rw [hv] at HX3 HLx HGx HNE
          rw [show (w2.alloc (.cells #[.int .u8 0, .int .u8 0, .int .u8 0, .int .u8 0, .int .u8 0, .int .u8 0, .int .u8 0, .int .u8 0, .int .u8 0, .int .u8 0, .int .u8 0, .int .u8 0, .int .u8 0, .int .u8 0, .int .u8 0, .int .u8 0, .int .u8 0, .int .u8 0, .int .u8 0, .int .u8 0, .int .u8 0, .int .u8 0, .int .u8 0, .int .u8 0, .int .u8 0, .int .u8 0, .int .u8 0, .int .u8 0, .int .u8 0, .int .u8 0, .int .u8 0, .int .u8 0] 24)) = w3 from hw, hv]
          clear hv hw
          (refine Shut.out hK _ _ (two_cells HT3.out) (fun hHeld => ?_); clear hK K; (try simp only [Act.put, List.getElem_toArray, List.getElem_cons_zero, List.getElem_cons_succ, List.setIfInBounds_toArray, List.set_cons_zero, List.set_cons_succ]))
          refine wpAnyH_ready (rs := [9]) (by kernel_rfl) (by simp) (AllReadyH.cons rfl (fun K hK => ?_) AllReadyH.nil)
          go_simp
          refine (HOF2.out _ (Kd.C_below HR2.out HB3.out)).mono ?_
          rintro e w4 ⟨rfl, hb⟩
          have HT4 := Aside0.mk (HT3.out.below hb)
          have HP4 := Aside0.mk (HP3.out.below hb)
          have HX4 := Aside0.mk (HX3.out.below hb)
          have HY4 := Aside0.mk (HY3.out.below hb)
          have HB4 := Aside0.mk (below_step HB3.out hb)
          clear hb
          (refine Shut.out hK _ _ (two_cells HT4.out) (fun hHeld => ?_); clear hK K; (try simp only [Act.put, List.getElem_toArray, List.getElem_cons_zero, List.getElem_cons_succ, List.setIfInBounds_toArray, List.set_cons_zero, List.set_cons_succ]))
          refine wpAnyH_ready (rs := [12]) (by kernel_rfl) (by simp) (AllReadyH.cons rfl (fun K hK => ?_) AllReadyH.nil)
          rw [if_pos (by rfl)]
          refine wp_store_row 24 (.tmp 7) (.tmp 29) rfl x D1.toArray rfl rfl 24 Z32 HX4.out HIA1.out HSZ1.out HONE1.out ?_
          have HT5 := Aside0.mk (Blk.setOther (ds := D1.toArray) HT4.out (fun e => HGx.out.1 e.symm))
          have HP5 := Aside0.mk (Blk.setOther (ds := D1.toArray) HP4.out (fun e => HGx.out.2 e.symm))
          have HX5 := Aside0.mk (Blk.setSame (ds := D1.toArray) HX4.out)
          have HY5 := Aside0.mk (Blk.setOther (ds := D1.toArray) HY4.out (HNE.out))
          have HB5 := Aside0.mk (below_setRow HB4.out HLx.out D1.toArray)
          (refine Shut.out hK _ _ (two_cells HT5.out) (fun hHeld => ?_); clear hK K; (try simp only [Act.put, List.getElem_toArray, List.getElem_cons_zero, List.getElem_cons_succ, List.setIfInBounds_toArray, List.set_cons_zero, List.set_cons_succ]))
          refine wpAnyH_ready (rs := [13]) (by kernel_rfl) (by simp) (AllReadyH.cons rfl (fun K hK => ?_) AllReadyH.nil)
          rw [if_pos (by rfl)]
          refine wp_store_row 24 (.tmp 8) (.tmp 34) rfl y D2.toArray rfl rfl 24 Z32 HY5.out HIA2.out HSZ2.out HONE2.out ?_
          have HT6 := Aside0.mk (Blk.setOther (ds := D2.toArray) HT5.out (fun e => HGy.out.1 e.symm))
          have HP6 := Aside0.mk (Blk.setOther (ds := D2.toArray) HP5.out (fun e => HGy.out.2 e.symm))
          have HX6 := Aside0.mk (Blk.setOther (ds := D2.toArray) HX5.out (fun e => HNE.out e.symm))
          have HY6 := Aside0.mk (Blk.setSame (ds := D2.toArray) HY5.out)
          have HB6 := Aside0.mk (below_setRow HB5.out HLy.out D2.toArray)
          (refine Shut.out hK _ _ (two_cells HT6.out) (fun hHeld => ?_); clear hK K; (try simp only [Act.put, List.getElem_toArray, List.getElem_cons_zero, List.getElem_cons_succ, List.setIfInBounds_toArray, List.set_cons_zero, List.set_cons_succ]))
          refine wpAnyH_done (by kernel_rfl) ?_ _
          go_wp2_with (fail)
          go_meet
          case rel => exact ⟨x, y, rfl, rfl, HX6.out, HY6.out, HT6.out, HP6.out, HB6.out⟩
    ·
      go_simp
      have HT1 := Aside0.mk (show Blk (W.alloc (.cells Z32 24)).drew g 47 #[.int .u64 s, .int .u64 t, .slice A1 a.length c1, .slice A2 b.length c2] from Blk.alloc HT0d.out _)
      have HP1 := Aside0.mk (show Blk (W.alloc (.cells Z32 24)).drew q 24 P.toArray from Blk.alloc HP0d.out _)
      have HX1 := Aside0.mk (show Blk (W.alloc (.cells Z32 24)).drew W.heap.size 24 Z32 from blk_new W _)
      have HB1 := Aside0.mk (show Below w.heap.size w (W.alloc (.cells Z32 24)).drew from below_drew1 (below_alloc HB0.out _))
      have HLx := Aside0.mk (show w.heap.size ≤ W.heap.size by have h1 : g < W.heap.size := HT0d.out.lt; have h3 := HGQ.out; omega)
      have HGx := Aside0.mk (show g ≠ W.heap.size ∧ q ≠ W.heap.size by have h1 : g < W.heap.size := HT0d.out.lt; have h2 : q < W.heap.size := HP0d.out.lt; omega)
      obtain ⟨x, hv⟩ : ∃ v, W.heap.size = v := ⟨_, rfl⟩
      obtain ⟨w1, hw⟩ : ∃ V, (W.alloc (.cells Z32 24)).drew = V := ⟨_, rfl⟩
      rw [hw] at HT1 HP1 HX1 HB1
      rw [hv] at HX1 HLx HGx
      rw [show (W.alloc (.cells #[.int .u8 0, .int .u8 0, .int .u8 0, .int .u8 0, .int .u8 0, .int .u8 0, .int .u8 0, .int .u8 0, .int .u8 0, .int .u8 0, .int .u8 0, .int .u8 0, .int .u8 0, .int .u8 0, .int .u8 0, .int .u8 0, .int .u8 0, .int .u8 0, .int .u8 0, .int .u8 0, .int .u8 0, .int .u8 0, .int .u8 0, .int .u8 0, .int .u8 0, .int .u8 0, .int .u8 0, .int .u8 0, .int .u8 0, .int .u8 0, .int .u8 0, .int .u8 0] 24)).drew = w1 from hw, hv]
      clear hv hw
      (refine Shut.out hK _ _ (two_cells HT1.out) (fun hHeld => ?_); clear hK K; (try simp only [Act.put, List.getElem_toArray, List.getElem_cons_zero, List.getElem_cons_succ, List.setIfInBounds_toArray, List.set_cons_zero, List.set_cons_succ]))
      refine wpAnyH_ready (rs := [4, 11]) (by kernel_rfl) (by simp) (AllReadyH.cons rfl (fun K hK => ?_) (AllReadyH.cons rfl (fun K hK => ?_) AllReadyH.nil))
      ·
        go_simp
        refine (HOF1.out _ (Kd.C_below HR1.out HB1.out)).mono ?_
        rintro e w2 ⟨rfl, hb⟩
        have HT2 := Aside0.mk (HT1.out.below hb)
        have HP2 := Aside0.mk (HP1.out.below hb)
        have HX2 := Aside0.mk (HX1.out.below hb)
        have HB2 := Aside0.mk (below_step HB1.out hb)
        clear hb
        (refine Shut.out hK _ _ (two_cells HT2.out) (fun hHeld => ?_); clear hK K; (try simp only [Act.put, List.getElem_toArray, List.getElem_cons_zero, List.getElem_cons_succ, List.setIfInBounds_toArray, List.set_cons_zero, List.set_cons_succ]))
        refine wpAnyH_ready (rs := [9, 11]) (by kernel_rfl) (by simp) (AllReadyH.cons rfl (fun K hK => ?_) (AllReadyH.cons rfl (fun K hK => ?_) AllReadyH.nil))
        ·
          go_simp
          refine (HOF2.out _ (Kd.C_below HR2.out HB2.out)).mono ?_
          rintro e w3 ⟨rfl, hb⟩
          have HT3 := Aside0.mk (HT2.out.below hb)
          have HP3 := Aside0.mk (HP2.out.below hb)
          have HX3 := Aside0.mk (HX2.out.below hb)
          have HB3 := Aside0.mk (below_step HB2.out hb)
          clear hb
          (refine Shut.out hK _ _ (two_cells HT3.out) (fun hHeld => ?_); clear hK K; (try simp only [Act.put, List.getElem_toArray, List.getElem_cons_zero, List.getElem_cons_succ, List.setIfInBounds_toArray, List.set_cons_zero, List.set_cons_succ]))
          refine wpAnyH_ready (rs := [11]) (by kernel_rfl) (by simp) (AllReadyH.cons rfl (fun K hK => ?_) AllReadyH.nil)
          go_simp
          have HT4 := Aside0.mk (show Blk (w3.alloc (.cells Z32 24)) g 47 #[.int .u64 s, .int .u64 t, .slice A1 a.length c1, .slice A2 b.length c2] from Blk.alloc HT3.out _)
          have HP4 := Aside0.mk (show Blk (w3.alloc (.cells Z32 24)) q 24 P.toArray from Blk.alloc HP3.out _)
          have HX4 := Aside0.mk (show Blk (w3.alloc (.cells Z32 24)) x 24 Z32 from Blk.alloc HX3.out _)
          have HY4 := Aside0.mk (show Blk (w3.alloc (.cells Z32 24)) w3.heap.size 24 Z32 from blk_new w3 _)
          have HB4 := Aside0.mk (show Below w.heap.size w (w3.alloc (.cells Z32 24)) from below_alloc HB3.out _)
          have HLy := Aside0.mk (show w.heap.size ≤ w3.heap.size by have h1 : g < w3.heap.size := HT3.out.lt; have h3 := HGQ.out; omega)
          have HNE := Aside0.mk (show x ≠ w3.heap.size by have h1 : x < w3.heap.size := HX3.out.lt; omega)
          have HGy := Aside0.mk (show g ≠ w3.heap.size ∧ q ≠ w3.heap.size by have h1 : g < w3.heap.size := HT3.out.lt; have h2 : q < w3.heap.size := HP3.out.lt; omega)
          obtain ⟨y, hv⟩ : ∃ v, w3.heap.size = v := ⟨_, rfl⟩
          obtain ⟨w4, hw⟩ : ∃ V, (w3.alloc (.cells Z32 24)) = V := ⟨_, rfl⟩
          rw [hw] at HT4 HP4 HX4 HY4 HB4
          rw [hv] at HY4 HLy HGy HNE
          rw [show (w3.alloc (.cells #[.int .u8 0, .int .u8 0, .int .u8 0, .int .u8 0, .int .u8 0, .int .u8 0, .int .u8 0, .int .u8 0, .int .u8 0, .int .u8 0, .int .u8 0, .int .u8 0, .int .u8 0, .int .u8 0, .int .u8 0, .int .u8 0, .int .u8 0, .int .u8 0, .int .u8 0, .int .u8 0, .int .u8 0, .int .u8 0, .int .u8 0, .int .u8 0, .int .u8 0, .int .u8 0, .int .u8 0, .int .u8 0, .int .u8 0, .int .u8 0, .int .u8 0, .int .u8 0] 24)) = w4 from hw, hv]
          clear hv hw
          (refine Shut.out hK _ _ (two_cells HT4.out) (fun hHeld => ?_); clear hK K; (try simp only [Act.put, List.getElem_toArray, List.getElem_cons_zero, List.getElem_cons_succ, List.setIfInBounds_toArray, List.set_cons_zero, List.set_cons_succ]))
          refine wpAnyH_ready (rs := [12]) (by kernel_rfl) (by simp) (AllReadyH.cons rfl (fun K hK => ?_) AllReadyH.nil)
          rw [if_pos (by rfl)]
          refine wp_store_row 24 (.tmp 7) (.tmp 29) rfl x D1.toArray rfl rfl 24 Z32 HX4.out HIA1.out HSZ1.out HONE1.out ?_
          have HT5 := Aside0.mk (Blk.setOther (ds := D1.toArray) HT4.out (fun e => HGx.out.1 e.symm))
          have HP5 := Aside0.mk (Blk.setOther (ds := D1.toArray) HP4.out (fun e => HGx.out.2 e.symm))
          have HX5 := Aside0.mk (Blk.setSame (ds := D1.toArray) HX4.out)
          have HY5 := Aside0.mk (Blk.setOther (ds := D1.toArray) HY4.out (HNE.out))
          have HB5 := Aside0.mk (below_setRow HB4.out HLx.out D1.toArray)
          (refine Shut.out hK _ _ (two_cells HT5.out) (fun hHeld => ?_); clear hK K; (try simp only [Act.put, List.getElem_toArray, List.getElem_cons_zero, List.getElem_cons_succ, List.setIfInBounds_toArray, List.set_cons_zero, List.set_cons_succ]))
          refine wpAnyH_ready (rs := [13]) (by kernel_rfl) (by simp) (AllReadyH.cons rfl (fun K hK => ?_) AllReadyH.nil)
          rw [if_pos (by rfl)]
          refine wp_store_row 24 (.tmp 8) (.tmp 34) rfl y D2.toArray rfl rfl 24 Z32 HY5.out HIA2.out HSZ2.out HONE2.out ?_
          have HT6 := Aside0.mk (Blk.setOther (ds := D2.toArray) HT5.out (fun e => HGy.out.1 e.symm))
          have HP6 := Aside0.mk (Blk.setOther (ds := D2.toArray) HP5.out (fun e => HGy.out.2 e.symm))
          have HX6 := Aside0.mk (Blk.setOther (ds := D2.toArray) HX5.out (fun e => HNE.out e.symm))
          have HY6 := Aside0.mk (Blk.setSame (ds := D2.toArray) HY5.out)
          have HB6 := Aside0.mk (below_setRow HB5.out HLy.out D2.toArray)
          (refine Shut.out hK _ _ (two_cells HT6.out) (fun hHeld => ?_); clear hK K; (try simp only [Act.put, List.getElem_toArray, List.getElem_cons_zero, List.getElem_cons_succ, List.setIfInBounds_toArray, List.set_cons_zero, List.set_cons_succ]))
          refine wpAnyH_done (by kernel_rfl) ?_ _
          go_wp2_with (fail)
          go_meet
          case rel => exact ⟨x, y, rfl, rfl, HX6.out, HY6.out, HT6.out, HP6.out, HB6.out⟩
        ·
          go_simp
          have HT3 := Aside0.mk (show Blk (w2.alloc (.cells Z32 24)) g 47 #[.int .u64 s, .int .u64 t, .slice A1 a.length c1, .slice A2 b.length c2] from Blk.alloc HT2.out _)
          have HP3 := Aside0.mk (show Blk (w2.alloc (.cells Z32 24)) q 24 P.toArray from Blk.alloc HP2.out _)
          have HX3 := Aside0.mk (show Blk (w2.alloc (.cells Z32 24)) x 24 Z32 from Blk.alloc HX2.out _)
          have HY3 := Aside0.mk (show Blk (w2.alloc (.cells Z32 24)) w2.heap.size 24 Z32 from blk_new w2 _)
          have HB3 := Aside0.mk (show Below w.heap.size w (w2.alloc (.cells Z32 24)) from below_alloc HB2.out _)
          have HLy := Aside0.mk (show w.heap.size ≤ w2.heap.size by have h1 : g < w2.heap.size := HT2.out.lt; have h3 := HGQ.out; omega)
          have HNE := Aside0.mk (show x ≠ w2.heap.size by have h1 : x < w2.heap.size := HX2.out.lt; omega)
          have HGy := Aside0.mk (show g ≠ w2.heap.size ∧ q ≠ w2.heap.size by have h1 : g < w2.heap.size := HT2.out.lt; have h2 : q < w2.heap.size := HP2.out.lt; omega)
          obtain ⟨y, hv⟩ : ∃ v, w2.heap.size = v := ⟨_, rfl⟩
          obtain ⟨w3, hw⟩ : ∃ V, (w2.alloc (.cells Z32 24)) = V := ⟨_, rfl⟩
          rw [hw] at HT3 HP3 HX3 HY3 HB3
          rw [hv] at HY3 HLy HGy HNE
          rw [show (w2.alloc (.cells #[.int .u8 0, .int .u8 0, .int .u8 0, .int .u8 0, .int .u8 0, .int .u8 0, .int .u8 0, .int .u8 0, .int .u8 0, .int .u8 0, .int .u8 0, .int .u8 0, .int .u8 0, .int .u8 0, .int .u8 0, .int .u8 0, .int .u8 0, .int .u8 0, .int .u8 0, .int .u8 0, .int .u8 0, .int .u8 0, .int .u8 0, .int .u8 0, .int .u8 0, .int .u8 0, .int .u8 0, .int .u8 0, .int .u8 0, .int .u8 0, .int .u8 0, .int .u8 0] 24)) = w3 from hw, hv]
          clear hv hw
          (refine Shut.out hK _ _ (two_cells HT3.out) (fun hHeld => ?_); clear hK K; (try simp only [Act.put, List.getElem_toArray, List.getElem_cons_zero, List.getElem_cons_succ, List.setIfInBounds_toArray, List.set_cons_zero, List.set_cons_succ]))
          refine wpAnyH_ready (rs := [9]) (by kernel_rfl) (by simp) (AllReadyH.cons rfl (fun K hK => ?_) AllReadyH.nil)
          go_simp
          refine (HOF2.out _ (Kd.C_below HR2.out HB3.out)).mono ?_
          rintro e w4 ⟨rfl, hb⟩
          have HT4 := Aside0.mk (HT3.out.below hb)
          have HP4 := Aside0.mk (HP3.out.below hb)
          have HX4 := Aside0.mk (HX3.out.below hb)
          have HY4 := Aside0.mk (HY3.out.below hb)
          have HB4 := Aside0.mk (below_step HB3.out hb)
          clear hb
          (refine Shut.out hK _ _ (two_cells HT4.out) (fun hHeld => ?_); clear hK K; (try simp only [Act.put, List.getElem_toArray, List.getElem_cons_zero, List.getElem_cons_succ, List.setIfInBounds_toArray, List.set_cons_zero, List.set_cons_succ]))
          refine wpAnyH_ready (rs := [12]) (by kernel_rfl) (by simp) (AllReadyH.cons rfl (fun K hK => ?_) AllReadyH.nil)
          rw [if_pos (by rfl)]
          refine wp_store_row 24 (.tmp 7) (.tmp 29) rfl x D1.toArray rfl rfl 24 Z32 HX4.out HIA1.out HSZ1.out HONE1.out ?_
          have HT5 := Aside0.mk (Blk.setOther (ds := D1.toArray) HT4.out (fun e => HGx.out.1 e.symm))
          have HP5 := Aside0.mk (Blk.setOther (ds := D1.toArray) HP4.out (fun e => HGx.out.2 e.symm))
          have HX5 := Aside0.mk (Blk.setSame (ds := D1.toArray) HX4.out)
          have HY5 := Aside0.mk (Blk.setOther (ds := D1.toArray) HY4.out (HNE.out))
          have HB5 := Aside0.mk (below_setRow HB4.out HLx.out D1.toArray)
          (refine Shut.out hK _ _ (two_cells HT5.out) (fun hHeld => ?_); clear hK K; (try simp only [Act.put, List.getElem_toArray, List.getElem_cons_zero, List.getElem_cons_succ, List.setIfInBounds_toArray, List.set_cons_zero, List.set_cons_succ]))
          refine wpAnyH_ready (rs := [13]) (by kernel_rfl) (by simp) (AllReadyH.cons rfl (fun K hK => ?_) AllReadyH.nil)
          rw [if_pos (by rfl)]
          refine wp_store_row 24 (.tmp 8) (.tmp 34) rfl y D2.toArray rfl rfl 24 Z32 HY5.out HIA2.out HSZ2.out HONE2.out ?_
          have HT6 := Aside0.mk (Blk.setOther (ds := D2.toArray) HT5.out (fun e => HGy.out.1 e.symm))
          have HP6 := Aside0.mk (Blk.setOther (ds := D2.toArray) HP5.out (fun e => HGy.out.2 e.symm))
          have HX6 := Aside0.mk (Blk.setOther (ds := D2.toArray) HX5.out (fun e => HNE.out e.symm))
          have HY6 := Aside0.mk (Blk.setSame (ds := D2.toArray) HY5.out)
          have HB6 := Aside0.mk (below_setRow HB5.out HLy.out D2.toArray)
          (refine Shut.out hK _ _ (two_cells HT6.out) (fun hHeld => ?_); clear hK K; (try simp only [Act.put, List.getElem_toArray, List.getElem_cons_zero, List.getElem_cons_succ, List.setIfInBounds_toArray, List.set_cons_zero, List.set_cons_succ]))
          refine wpAnyH_done (by kernel_rfl) ?_ _
          go_wp2_with (fail)
          go_meet
          case rel => exact ⟨x, y, rfl, rfl, HX6.out, HY6.out, HT6.out, HP6.out, HB6.out⟩
      ·
        go_simp
        have HT2 := Aside0.mk (show Blk (w1.alloc (.cells Z32 24)) g 47 #[.int .u64 s, .int .u64 t, .slice A1 a.length c1, .slice A2 b.length c2] from Blk.alloc HT1.out _)
        have HP2 := Aside0.mk (show Blk (w1.alloc (.cells Z32 24)) q 24 P.toArray from Blk.alloc HP1.out _)
        have HX2 := Aside0.mk (show Blk (w1.alloc (.cells Z32 24)) x 24 Z32 from Blk.alloc HX1.out _)
        have HY2 := Aside0.mk (show Blk (w1.alloc (.cells Z32 24)) w1.heap.size 24 Z32 from blk_new w1 _)
        have HB2 := Aside0.mk (show Below w.heap.size w (w1.alloc (.cells Z32 24)) from below_alloc HB1.out _)
        have HLy := Aside0.mk (show w.heap.size ≤ w1.heap.size by have h1 : g < w1.heap.size := HT1.out.lt; have h3 := HGQ.out; omega)
        have HNE := Aside0.mk (show x ≠ w1.heap.size by have h1 : x < w1.heap.size := HX1.out.lt; omega)
        have HGy := Aside0.mk (show g ≠ w1.heap.size ∧ q ≠ w1.heap.size by have h1 : g < w1.heap.size := HT1.out.lt; have h2 : q < w1.heap.size := HP1.out.lt; omega)
        obtain ⟨y, hv⟩ : ∃ v, w1.heap.size = v := ⟨_, rfl⟩
        obtain ⟨w2, hw⟩ : ∃ V, (w1.alloc (.cells Z32 24)) = V := ⟨_, rfl⟩
        rw [hw] at HT2 HP2 HX2 HY2 HB2
        rw [hv] at HY2 HLy HGy HNE
        rw [show (w1.alloc (.cells #[.int .u8 0, .int .u8 0, .int .u8 0, .int .u8 0, .int .u8 0, .int .u8 0, .int .u8 0, .int .u8 0, .int .u8 0, .int .u8 0, .int .u8 0, .int .u8 0, .int .u8 0, .int .u8 0, .int .u8 0, .int .u8 0, .int .u8 0, .int .u8 0, .int .u8 0, .int .u8 0, .int .u8 0, .int .u8 0, .int .u8 0, .int .u8 0, .int .u8 0, .int .u8 0, .int .u8 0, .int .u8 0, .int .u8 0, .int .u8 0, .int .u8 0, .int .u8 0] 24)) = w2 from hw, hv]
        clear hv hw
        (refine Shut.out hK _ _ (two_cells HT2.out) (fun hHeld => ?_); clear hK K; (try simp only [Act.put, List.getElem_toArray, List.getElem_cons_zero, List.getElem_cons_succ, List.setIfInBounds_toArray, List.set_cons_zero, List.set_cons_succ]))
        refine wpAnyH_ready (rs := [4]) (by kernel_rfl) (by simp) (AllReadyH.cons rfl (fun K hK => ?_) AllReadyH.nil)
        go_simp
        refine (HOF1.out _ (Kd.C_below HR1.out HB2.out)).mono ?_
        rintro e w3 ⟨rfl, hb⟩
        have HT3 := Aside0.mk (HT2.out.below hb)
        have HP3 := Aside0.mk (HP2.out.below hb)
        have HX3 := Aside0.mk (HX2.out.below hb)
        have HY3 := Aside0.mk (HY2.out.below hb)
        have HB3 := Aside0.mk (below_step HB2.out hb)
        clear hb
        (refine Shut.out hK _ _ (two_cells HT3.out) (fun hHeld => ?_); clear hK K; (try simp only [Act.put, List.getElem_toArray, List.getElem_cons_zero, List.getElem_cons_succ, List.setIfInBounds_toArray, List.set_cons_zero, List.set_cons_succ]))
        refine wpAnyH_ready (rs := [9]) (by kernel_rfl) (by simp) (AllReadyH.cons rfl (fun K hK => ?_) AllReadyH.nil)
        go_simp
        refine (HOF2.out _ (Kd.C_below HR2.out HB3.out)).mono ?_
        rintro e w4 ⟨rfl, hb⟩
        have HT4 := Aside0.mk (HT3.out.below hb)
        have HP4 := Aside0.mk (HP3.out.below hb)
        have HX4 := Aside0.mk (HX3.out.below hb)
        have HY4 := Aside0.mk (HY3.out.below hb)
        have HB4 := Aside0.mk (below_step HB3.out hb)
        clear hb
        (refine Shut.out hK _ _ (two_cells HT4.out) (fun hHeld => ?_); clear hK K; (try simp only [Act.put, List.getElem_toArray, List.getElem_cons_zero, List.getElem_cons_succ, List.setIfInBounds_toArray, List.set_cons_zero, List.set_cons_succ]))
        refine wpAnyH_ready (rs := [12]) (by kernel_rfl) (by simp) (AllReadyH.cons rfl (fun K hK => ?_) AllReadyH.nil)
        rw [if_pos (by rfl)]
        refine wp_store_row 24 (.tmp 7) (.tmp 29) rfl x D1.toArray rfl rfl 24 Z32 HX4.out HIA1.out HSZ1.out HONE1.out ?_
        have HT5 := Aside0.mk (Blk.setOther (ds := D1.toArray) HT4.out (fun e => HGx.out.1 e.symm))
        have HP5 := Aside0.mk (Blk.setOther (ds := D1.toArray) HP4.out (fun e => HGx.out.2 e.symm))
        have HX5 := Aside0.mk (Blk.setSame (ds := D1.toArray) HX4.out)
        have HY5 := Aside0.mk (Blk.setOther (ds := D1.toArray) HY4.out (HNE.out))
        have HB5 := Aside0.mk (below_setRow HB4.out HLx.out D1.toArray)
        (refine Shut.out hK _ _ (two_cells HT5.out) (fun hHeld => ?_); clear hK K; (try simp only [Act.put, List.getElem_toArray, List.getElem_cons_zero, List.getElem_cons_succ, List.setIfInBounds_toArray, List.set_cons_zero, List.set_cons_succ]))
        refine wpAnyH_ready (rs := [13]) (by kernel_rfl) (by simp) (AllReadyH.cons rfl (fun K hK => ?_) AllReadyH.nil)
        rw [if_pos (by rfl)]
        refine wp_store_row 24 (.tmp 8) (.tmp 34) rfl y D2.toArray rfl rfl 24 Z32 HY5.out HIA2.out HSZ2.out HONE2.out ?_
        have HT6 := Aside0.mk (Blk.setOther (ds := D2.toArray) HT5.out (fun e => HGy.out.1 e.symm))
        have HP6 := Aside0.mk (Blk.setOther (ds := D2.toArray) HP5.out (fun e => HGy.out.2 e.symm))
        have HX6 := Aside0.mk (Blk.setOther (ds := D2.toArray) HX5.out (fun e => HNE.out e.symm))
        have HY6 := Aside0.mk (Blk.setSame (ds := D2.toArray) HY5.out)
        have HB6 := Aside0.mk (below_setRow HB5.out HLy.out D2.toArray)
        (refine Shut.out hK _ _ (two_cells HT6.out) (fun hHeld => ?_); clear hK K; (try simp only [Act.put, List.getElem_toArray, List.getElem_cons_zero, List.getElem_cons_succ, List.setIfInBounds_toArray, List.set_cons_zero, List.set_cons_succ]))
        refine wpAnyH_done (by kernel_rfl) ?_ _
        go_wp2_with (fail)
        go_meet
        case rel => exact ⟨x, y, rfl, rfl, HX6.out, HY6.out, HT6.out, HP6.out, HB6.out⟩
    ·
      go_simp
      have HT1 := Aside0.mk (show Blk (W.alloc (.cells Z32 24)).drew g 47 #[.int .u64 s, .int .u64 t, .slice A1 a.length c1, .slice A2 b.length c2] from Blk.alloc HT0d.out _)
      have HP1 := Aside0.mk (show Blk (W.alloc (.cells Z32 24)).drew q 24 P.toArray from Blk.alloc HP0d.out _)
      have HY1 := Aside0.mk (show Blk (W.alloc (.cells Z32 24)).drew W.heap.size 24 Z32 from blk_new W _)
      have HB1 := Aside0.mk (show Below w.heap.size w (W.alloc (.cells Z32 24)).drew from below_drew1 (below_alloc HB0.out _))
      have HLy := Aside0.mk (show w.heap.size ≤ W.heap.size by have h1 : g < W.heap.size := HT0d.out.lt; have h3 := HGQ.out; omega)
      have HGy := Aside0.mk (show g ≠ W.heap.size ∧ q ≠ W.heap.size by have h1 : g < W.heap.size := HT0d.out.lt; have h2 : q < W.heap.size := HP0d.out.lt; omega)
      obtain ⟨y, hv⟩ : ∃ v, W.heap.size = v := ⟨_, rfl⟩
      obtain ⟨w1, hw⟩ : ∃ V, (W.alloc (.cells Z32 24)).drew = V := ⟨_, rfl⟩
      rw [hw] at HT1 HP1 HY1 HB1
      rw [hv] at HY1 HLy HGy
      rw [show (W.alloc (.cells #[.int .u8 0, .int .u8 0, .int .u8 0, .int .u8 0, .int .u8 0, .int .u8 0, .int .u8 0, .int .u8 0, .int .u8 0, .int .u8 0, .int .u8 0, .int .u8 0, .int .u8 0, .int .u8 0, .int .u8 0, .int .u8 0, .int .u8 0, .int .u8 0, .int .u8 0, .int .u8 0, .int .u8 0, .int .u8 0, .int .u8 0, .int .u8 0, .int .u8 0, .int .u8 0, .int .u8 0, .int .u8 0, .int .u8 0, .int .u8 0, .int .u8 0, .int .u8 0] 24)).drew = w1 from hw, hv]
      clear hv hw
      (refine Shut.out hK _ _ (two_cells HT1.out) (fun hHeld => ?_); clear hK K; (try simp only [Act.put, List.getElem_toArray, List.getElem_cons_zero, List.getElem_cons_succ, List.setIfInBounds_toArray, List.set_cons_zero, List.set_cons_succ]))
      refine wpAnyH_ready (rs := [4, 10]) (by kernel_rfl) (by simp) (AllReadyH.cons rfl (fun K hK => ?_) (AllReadyH.cons rfl (fun K hK => ?_) AllReadyH.nil))
      ·
        go_simp
        refine (HOF1.out _ (Kd.C_below HR1.out HB1.out)).mono ?_
        rintro e w2 ⟨rfl, hb⟩
        have HT2 := Aside0.mk (HT1.out.below hb)
        have HP2 := Aside0.mk (HP1.out.below hb)
        have HY2 := Aside0.mk (HY1.out.below hb)
        have HB2 := Aside0.mk (below_step HB1.out hb)
        clear hb
        (refine Shut.out hK _ _ (two_cells HT2.out) (fun hHeld => ?_); clear hK K; (try simp only [Act.put, List.getElem_toArray, List.getElem_cons_zero, List.getElem_cons_succ, List.setIfInBounds_toArray, List.set_cons_zero, List.set_cons_succ]))
        refine wpAnyH_ready (rs := [9, 10]) (by kernel_rfl) (by simp) (AllReadyH.cons rfl (fun K hK => ?_) (AllReadyH.cons rfl (fun K hK => ?_) AllReadyH.nil))
        ·
          go_simp
          refine (HOF2.out _ (Kd.C_below HR2.out HB2.out)).mono ?_
          rintro e w3 ⟨rfl, hb⟩
          have HT3 := Aside0.mk (HT2.out.below hb)
          have HP3 := Aside0.mk (HP2.out.below hb)
          have HY3 := Aside0.mk (HY2.out.below hb)
          have HB3 := Aside0.mk (below_step HB2.out hb)
          clear hb
          (refine Shut.out hK _ _ (two_cells HT3.out) (fun hHeld => ?_); clear hK K; (try simp only [Act.put, List.getElem_toArray, List.getElem_cons_zero, List.getElem_cons_succ, List.setIfInBounds_toArray, List.set_cons_zero, List.set_cons_succ]))
          refine wpAnyH_ready (rs := [10]) (by kernel_rfl) (by simp) (AllReadyH.cons rfl (fun K hK => ?_) AllReadyH.nil)
          go_simp
          have HT4 := Aside0.mk (show Blk (w3.alloc (.cells Z32 24)) g 47 #[.int .u64 s, .int .u64 t, .slice A1 a.length c1, .slice A2 b.length c2] from Blk.alloc HT3.out _)
          have HP4 := Aside0.mk (show Blk (w3.alloc (.cells Z32 24)) q 24 P.toArray from Blk.alloc HP3.out _)
          have HY4 := Aside0.mk (show Blk (w3.alloc (.cells Z32 24)) y 24 Z32 from Blk.alloc HY3.out _)
          have HX4 := Aside0.mk (show Blk (w3.alloc (.cells Z32 24)) w3.heap.size 24 Z32 from blk_new w3 _)
          have HB4 := Aside0.mk (show Below w.heap.size w (w3.alloc (.cells Z32 24)) from below_alloc HB3.out _)
          have HLx := Aside0.mk (show w.heap.size ≤ w3.heap.size by have h1 : g < w3.heap.size := HT3.out.lt; have h3 := HGQ.out; omega)
          have HNE := Aside0.mk (show w3.heap.size ≠ y by have h1 : y < w3.heap.size := HY3.out.lt; omega)
          have HGx := Aside0.mk (show g ≠ w3.heap.size ∧ q ≠ w3.heap.size by have h1 : g < w3.heap.size := HT3.out.lt; have h2 : q < w3.heap.size := HP3.out.lt; omega)
          obtain ⟨x, hv⟩ : ∃ v, w3.heap.size = v := ⟨_, rfl⟩
          obtain ⟨w4, hw⟩ : ∃ V, (w3.alloc (.cells Z32 24)) = V := ⟨_, rfl⟩
          rw [hw] at HT4 HP4 HY4 HX4 HB4
          rw [hv] at HX4 HLx HGx HNE
          rw [show (w3.alloc (.cells #[.int .u8 0, .int .u8 0, .int .u8 0, .int .u8 0, .int .u8 0, .int .u8 0, .int .u8 0, .int .u8 0, .int .u8 0, .int .u8 0, .int .u8 0, .int .u8 0, .int .u8 0, .int .u8 0, .int .u8 0, .int .u8 0, .int .u8 0, .int .u8 0, .int .u8 0, .int .u8 0, .int .u8 0, .int .u8 0, .int .u8 0, .int .u8 0, .int .u8 0, .int .u8 0, .int .u8 0, .int .u8 0, .int .u8 0, .int .u8 0, .int .u8 0, .int .u8 0] 24)) = w4 from hw, hv]
          clear hv hw
          (refine Shut.out hK _ _ (two_cells HT4.out) (fun hHeld => ?_); clear hK K; (try simp only [Act.put, List.getElem_toArray, List.getElem_cons_zero, List.getElem_cons_succ, List.setIfInBounds_toArray, List.set_cons_zero, List.set_cons_succ]))
          refine wpAnyH_ready (rs := [12]) (by kernel_rfl) (by simp) (AllReadyH.cons rfl (fun K hK => ?_) AllReadyH.nil)
          rw [if_pos (by rfl)]
          refine wp_store_row 24 (.tmp 7) (.tmp 29) rfl x D1.toArray rfl rfl 24 Z32 HX4.out HIA1.out HSZ1.out HONE1.out ?_
          have HT5 := Aside0.mk (Blk.setOther (ds := D1.toArray) HT4.out (fun e => HGx.out.1 e.symm))
          have HP5 := Aside0.mk (Blk.setOther (ds := D1.toArray) HP4.out (fun e => HGx.out.2 e.symm))
          have HX5 := Aside0.mk (Blk.setSame (ds := D1.toArray) HX4.out)
          have HY5 := Aside0.mk (Blk.setOther (ds := D1.toArray) HY4.out (HNE.out))
          have HB5 := Aside0.mk (below_setRow HB4.out HLx.out D1.toArray)
          (refine Shut.out hK _ _ (two_cells HT5.out) (fun hHeld => ?_); clear hK K; (try simp only [Act.put, List.getElem_toArray, List.getElem_cons_zero, List.getElem_cons_succ, List.setIfInBounds_toArray, List.set_cons_zero, List.set_cons_succ]))
          refine wpAnyH_ready (rs := [13]) (by kernel_rfl) (by simp) (AllReadyH.cons rfl (fun K hK => ?_) AllReadyH.nil)
          rw [if_pos (by rfl)]
          refine wp_store_row 24 (.tmp 8) (.tmp 34) rfl y D2.toArray rfl rfl 24 Z32 HY5.out HIA2.out HSZ2.out HONE2.out ?_
          have HT6 := Aside0.mk (Blk.setOther (ds := D2.toArray) HT5.out (fun e => HGy.out.1 e.symm))
          have HP6 := Aside0.mk (Blk.setOther (ds := D2.toArray) HP5.out (fun e => HGy.out.2 e.symm))
          have HX6 := Aside0.mk (Blk.setOther (ds := D2.toArray) HX5.out (fun e => HNE.out e.symm))
          have HY6 := Aside0.mk (Blk.setSame (ds := D2.toArray) HY5.out)
          have HB6 := Aside0.mk (below_setRow HB5.out HLy.out D2.toArray)
          (refine Shut.out hK _ _ (two_cells HT6.out) (fun hHeld => ?_); clear hK K; (try simp only [Act.put, List.getElem_toArray, List.getElem_cons_zero, List.getElem_cons_succ, List.setIfInBounds_toArray, List.set_cons_zero, List.set_cons_succ]))
          refine wpAnyH_done (by kernel_rfl) ?_ _
          go_wp2_with (fail)
          go_meet
          case rel => exact ⟨x, y, rfl, rfl, HX6.out, HY6.out, HT6.out, HP6.out, HB6.out⟩
        ·
          go_simp
          have HT3 := Aside0.mk (show Blk (w2.alloc (.cells Z32 24)) g 47 #[.int .u64 s, .int .u64 t, .slice A1 a.length c1, .slice A2 b.length c2] from Blk.alloc HT2.out _)
          have HP3 := Aside0.mk (show Blk (w2.alloc (.cells Z32 24)) q 24 P.toArray from Blk.alloc HP2.out _)
          have HY3 := Aside0.mk (show Blk (w2.alloc (.cells Z32 24)) y 24 Z32 from Blk.alloc HY2.out _)
          have HX3 := Aside0.mk (show Blk (w2.alloc (.cells Z32 24)) w2.heap.size 24 Z32 from blk_new w2 _)
          have HB3 := Aside0.mk (show Below w.heap.size w (w2.alloc (.cells Z32 24)) from below_alloc HB2.out _)
          have HLx := Aside0.mk (show w.heap.size ≤ w2.heap.size by have h1 : g < w2.heap.size := HT2.out.lt; have h3 := HGQ.out; omega)
          have HNE := Aside0.mk (show w2.heap.size ≠ y by have h1 : y < w2.heap.size := HY2.out.lt; omega)
          have HGx := Aside0.mk (show g ≠ w2.heap.size ∧ q ≠ w2.heap.size by have h1 : g < w2.heap.size := HT2.out.lt; have h2 : q < w2.heap.size := HP2.out.lt; omega)
          obtain ⟨x, hv⟩ : ∃ v, w2.heap.size = v := ⟨_, rfl⟩
          obtain ⟨w3, hw⟩ : ∃ V, (w2.alloc (.cells Z32 24)) = V := ⟨_, rfl⟩
          rw [hw] at HT3 HP3 HY3 HX3 HB3
          rw [hv] at HX3 HLx HGx HNE
          rw [show (w2.alloc (.cells #[.int .u8 0, .int .u8 0, .int .u8 0, .int .u8 0, .int .u8 0, .int .u8 0, .int .u8 0, .int .u8 0, .int .u8 0, .int .u8 0, .int .u8 0, .int .u8 0, .int .u8 0, .int .u8 0, .int .u8 0, .int .u8 0, .int .u8 0, .int .u8 0, .int .u8 0, .int .u8 0, .int .u8 0, .int .u8 0, .int .u8 0, .int .u8 0, .int .u8 0, .int .u8 0, .int .u8 0, .int .u8 0, .int .u8 0, .int .u8 0, .int .u8 0, .int .u8 0] 24)) = w3 from hw, hv]
          clear hv hw
          (refine Shut.out hK _ _ (two_cells HT3.out) (fun hHeld => ?_); clear hK K; (try simp only [Act.put, List.getElem_toArray, List.getElem_cons_zero, List.getElem_cons_succ, List.setIfInBounds_toArray, List.set_cons_zero, List.set_cons_succ]))
          refine wpAnyH_ready (rs := [9]) (by kernel_rfl) (by simp) (AllReadyH.cons rfl (fun K hK => ?_) AllReadyH.nil)
          go_simp
          refine (HOF2.out _ (Kd.C_below HR2.out HB3.out)).mono ?_
          rintro e w4 ⟨rfl, hb⟩
          have HT4 := Aside0.mk (HT3.out.below hb)
          have HP4 := Aside0.mk (HP3.out.below hb)
          have HX4 := Aside0.mk (HX3.out.below hb)
          have HY4 := Aside0.mk (HY3.out.below hb)
          have HB4 := Aside0.mk (below_step HB3.out hb)
          clear hb
          (refine Shut.out hK _ _ (two_cells HT4.out) (fun hHeld => ?_); clear hK K; (try simp only [Act.put, List.getElem_toArray, List.getElem_cons_zero, List.getElem_cons_succ, List.setIfInBounds_toArray, List.set_cons_zero, List.set_cons_succ]))
          refine wpAnyH_ready (rs := [12]) (by kernel_rfl) (by simp) (AllReadyH.cons rfl (fun K hK => ?_) AllReadyH.nil)
          rw [if_pos (by rfl)]
          refine wp_store_row 24 (.tmp 7) (.tmp 29) rfl x D1.toArray rfl rfl 24 Z32 HX4.out HIA1.out HSZ1.out HONE1.out ?_
          have HT5 := Aside0.mk (Blk.setOther (ds := D1.toArray) HT4.out (fun e => HGx.out.1 e.symm))
          have HP5 := Aside0.mk (Blk.setOther (ds := D1.toArray) HP4.out (fun e => HGx.out.2 e.symm))
          have HX5 := Aside0.mk (Blk.setSame (ds := D1.toArray) HX4.out)
          have HY5 := Aside0.mk (Blk.setOther (ds := D1.toArray) HY4.out (HNE.out))
          have HB5 := Aside0.mk (below_setRow HB4.out HLx.out D1.toArray)
          (refine Shut.out hK _ _ (two_cells HT5.out) (fun hHeld => ?_); clear hK K; (try simp only [Act.put, List.getElem_toArray, List.getElem_cons_zero, List.getElem_cons_succ, List.setIfInBounds_toArray, List.set_cons_zero, List.set_cons_succ]))
          refine wpAnyH_ready (rs := [13]) (by kernel_rfl) (by simp) (AllReadyH.cons rfl (fun K hK => ?_) AllReadyH.nil)
          rw [if_pos (by rfl)]
          refine wp_store_row 24 (.tmp 8) (.tmp 34) rfl y D2.toArray rfl rfl 24 Z32 HY5.out HIA2.out HSZ2.out HONE2.out ?_
          have HT6 := Aside0.mk (Blk.setOther (ds := D2.toArray) HT5.out (fun e => HGy.out.1 e.symm))
          have HP6 := Aside0.mk (Blk.setOther (ds := D2.toArray) HP5.out (fun e => HGy.out.2 e.symm))
          have HX6 := Aside0.mk (Blk.setOther (ds := D2.toArray) HX5.out (fun e => HNE.out e.symm))
          have HY6 := Aside0.mk (Blk.setSame (ds := D2.toArray) HY5.out)
          have HB6 := Aside0.mk (below_setRow HB5.out HLy.out D2.toArray)
          (refine Shut.out hK _ _ (two_cells HT6.out) (fun hHeld => ?_); clear hK K; (try simp only [Act.put, List.getElem_toArray, List.getElem_cons_zero, List.getElem_cons_succ, List.setIfInBounds_toArray, List.set_cons_zero, List.set_cons_succ]))
          refine wpAnyH_done (by kernel_rfl) ?_ _
          go_wp2_with (fail)
          go_meet
          case rel => exact ⟨x, y, rfl, rfl, HX6.out, HY6.out, HT6.out, HP6.out, HB6.out⟩
      ·
        go_simp
        have HT2 := Aside0.mk (show Blk (w1.alloc (.cells Z32 24)) g 47 #[.int .u64 s, .int .u64 t, .slice A1 a.length c1, .slice A2 b.length c2] from Blk.alloc HT1.out _)
        have HP2 := Aside0.mk (show Blk (w1.alloc (.cells Z32 24)) q 24 P.toArray from Blk.alloc HP1.out _)
        have HY2 := Aside0.mk (show Blk (w1.alloc (.cells Z32 24)) y 24 Z32 from Blk.alloc HY1.out _)
        have HX2 := Aside0.mk (show Blk (w1.alloc (.cells Z32 24)) w1.heap.size 24 Z32 from blk_new w1 _)
        have HB2 := Aside0.mk (show Below w.heap.size w (w1.alloc (.cells Z32 24)) from below_alloc HB1.out _)
        have HLx := Aside0.mk (show w.heap.size ≤ w1.heap.size by have h1 : g < w1.heap.size := HT1.out.lt; have h3 := HGQ.out; omega)
        have HNE := Aside0.mk (show w1.heap.size ≠ y by have h1 : y < w1.heap.size := HY1.out.lt; omega)
        have HGx := Aside0.mk (show g ≠ w1.heap.size ∧ q ≠ w1.heap.size by have h1 : g < w1.heap.size := HT1.out.lt; have h2 : q < w1.heap.size := HP1.out.lt; omega)
        obtain ⟨x, hv⟩ : ∃ v, w1.heap.size = v := ⟨_, rfl⟩
        obtain ⟨w2, hw⟩ : ∃ V, (w1.alloc (.cells Z32 24)) = V := ⟨_, rfl⟩
        rw [hw] at HT2 HP2 HY2 HX2 HB2
        rw [hv] at HX2 HLx HGx HNE
        rw [show (w1.alloc (.cells #[.int .u8 0, .int .u8 0, .int .u8 0, .int .u8 0, .int .u8 0, .int .u8 0, .int .u8 0, .int .u8 0, .int .u8 0, .int .u8 0, .int .u8 0, .int .u8 0, .int .u8 0, .int .u8 0, .int .u8 0, .int .u8 0, .int .u8 0, .int .u8 0, .int .u8 0, .int .u8 0, .int .u8 0, .int .u8 0, .int .u8 0, .int .u8 0, .int .u8 0, .int .u8 0, .int .u8 0, .int .u8 0, .int .u8 0, .int .u8 0, .int .u8 0, .int .u8 0] 24)) = w2 from hw, hv]
        clear hv hw
        (refine Shut.out hK _ _ (two_cells HT2.out) (fun hHeld => ?_); clear hK K; (try simp only [Act.put, List.getElem_toArray, List.getElem_cons_zero, List.getElem_cons_succ, List.setIfInBounds_toArray, List.set_cons_zero, List.set_cons_succ]))
        refine wpAnyH_ready (rs := [4]) (by kernel_rfl) (by simp) (AllReadyH.cons rfl (fun K hK => ?_) AllReadyH.nil)
        go_simp
        refine (HOF1.out _ (Kd.C_below HR1.out HB2.out)).mono ?_
        rintro e w3 ⟨rfl, hb⟩
        have HT3 := Aside0.mk (HT2.out.below hb)
        have HP3 := Aside0.mk (HP2.out.below hb)
        have HX3 := Aside0.mk (HX2.out.below hb)
        have HY3 := Aside0.mk (HY2.out.below hb)
        have HB3 := Aside0.mk (below_step HB2.out hb)
        clear hb
        (refine Shut.out hK _ _ (two_cells HT3.out) (fun hHeld => ?_); clear hK K; (try simp only [Act.put, List.getElem_toArray, List.getElem_cons_zero, List.getElem_cons_succ, List.setIfInBounds_toArray, List.set_cons_zero, List.set_cons_succ]))
        refine wpAnyH_ready (rs := [9]) (by kernel_rfl) (by simp) (AllReadyH.cons rfl (fun K hK => ?_) AllReadyH.nil)
        go_simp
        refine (HOF2.out _ (Kd.C_below HR2.out HB3.out)).mono ?_
        rintro e w4 ⟨rfl, hb⟩
        have HT4 := Aside0.mk (HT3.out.below hb)
        have HP4 := Aside0.mk (HP3.out.below hb)
        have HX4 := Aside0.mk (HX3.out.below hb)
        have HY4 := Aside0.mk (HY3.out.below hb)
        have HB4 := Aside0.mk (below_step HB3.out hb)
        clear hb
        (refine Shut.out hK _ _ (two_cells HT4.out) (fun hHeld => ?_); clear hK K; (try simp only [Act.put, List.getElem_toArray, List.getElem_cons_zero, List.getElem_cons_succ, List.setIfInBounds_toArray, List.set_cons_zero, List.set_cons_succ]))
        refine wpAnyH_ready (rs := [12]) (by kernel_rfl) (by simp) (AllReadyH.cons rfl (fun K hK => ?_) AllReadyH.nil)
        rw [if_pos (by rfl)]
        refine wp_store_row 24 (.tmp 7) (.tmp 29) rfl x D1.toArray rfl rfl 24 Z32 HX4.out HIA1.out HSZ1.out HONE1.out ?_
        have HT5 := Aside0.mk (Blk.setOther (ds := D1.toArray) HT4.out (fun e => HGx.out.1 e.symm))
        have HP5 := Aside0.mk (Blk.setOther (ds := D1.toArray) HP4.out (fun e => HGx.out.2 e.symm))
        have HX5 := Aside0.mk (Blk.setSame (ds := D1.toArray) HX4.out)
        have HY5 := Aside0.mk (Blk.setOther (ds := D1.toArray) HY4.out (HNE.out))
        have HB5 := Aside0.mk (below_setRow HB4.out HLx.out D1.toArray)
        (refine Shut.out hK _ _ (two_cells HT5.out) (fun hHeld => ?_); clear hK K; (try simp only [Act.put, List.getElem_toArray, List.getElem_cons_zero, List.getElem_cons_succ, List.setIfInBounds_toArray, List.set_cons_zero, List.set_cons_succ]))
        refine wpAnyH_ready (rs := [13]) (by kernel_rfl) (by simp) (AllReadyH.cons rfl (fun K hK => ?_) AllReadyH.nil)
        rw [if_pos (by rfl)]
        refine wp_store_row 24 (.tmp 8) (.tmp 34) rfl y D2.toArray rfl rfl 24 Z32 HY5.out HIA2.out HSZ2.out HONE2.out ?_
        have HT6 := Aside0.mk (Blk.setOther (ds := D2.toArray) HT5.out (fun e => HGy.out.1 e.symm))
        have HP6 := Aside0.mk (Blk.setOther (ds := D2.toArray) HP5.out (fun e => HGy.out.2 e.symm))
        have HX6 := Aside0.mk (Blk.setOther (ds := D2.toArray) HX5.out (fun e => HNE.out e.symm))
        have HY6 := Aside0.mk (Blk.setSame (ds := D2.toArray) HY5.out)
        have HB6 := Aside0.mk (below_setRow HB5.out HLy.out D2.toArray)
        (refine Shut.out hK _ _ (two_cells HT6.out) (fun hHeld => ?_); clear hK K; (try simp only [Act.put, List.getElem_toArray, List.getElem_cons_zero, List.getElem_cons_succ, List.setIfInBounds_toArray, List.set_cons_zero, List.set_cons_succ]))
        refine wpAnyH_done (by kernel_rfl) ?_ _
        go_wp2_with (fail)
        go_meet
        case rel => exact ⟨x, y, rfl, rfl, HX6.out, HY6.out, HT6.out, HP6.out, HB6.out⟩
  case rest =>
  obtain ⟨x, y, rfl, rfl, h1, h2, h3, h4, h5⟩ := hcut
  have HX := Aside0.mk h1
  have HY := Aside0.mk h2
  have HT := Aside0.mk h3
  have HP := Aside0.mk h4
  have HB := Aside0.mk h5
  clear h1 h2 h3 h4 h5 HT0 HP0 HB0
  go_wp2_with (first
    | ((with_reducible refine gate_dst (N := 36) rfl ?_); refine wpList_load_row rfl 24 (.tmp 5) rfl q rfl 24 P.toArray (0, 0) _ (by exact HP.out) Try.underlying24 rfl HIAP.out ?_)
    | ((with_reducible refine gate_dst (N := 37) rfl ?_); refine wpList_load_row rfl 24 (.tmp 7) rfl x rfl 24 D1.toArray (0, 0) _ (by exact HX.out) Try.underlying24 rfl HIA1.out ?_))
  refine (HLK.out _).mono ?_
  rintro e v1 ⟨rfl, hb⟩
  have HX1 := Aside0.mk (HX.out.below hb)
  have HY1 := Aside0.mk (HY.out.below hb)
  have HT1 := Aside0.mk (HT.out.below hb)
  have HP1 := Aside0.mk (HP.out.below hb)
  have HB1 := Aside0.mk (below_step HB.out hb)
  clear hb HX HY HT HP HB
  go_upto_region 5 with ((with_reducible refine gate_store (t := 24) (p := 9) (v := .tmp 38) rfl ?_); refine wpList_store_row rfl 24 (.tmp 9) (.tmp 38) rfl v1.heap.size D3.toArray rfl rfl 24 Z32 (by exact blk_new _ _) HIA3.out HSZ3.out HONE3.out ?_; rw [World.setRow_alloc_new])
  obtain ⟨z, hz⟩ : ∃ z, v1.heap.size = z := ⟨_, rfl⟩
  obtain ⟨V, hV⟩ : ∃ V, v1.alloc (.cells D3.toArray 24) = V := ⟨_, rfl⟩
  have HX := Aside0.mk (show Blk V x 24 D1.toArray by rw [← hV]; exact HX1.out.alloc _)
  have HY := Aside0.mk (show Blk V y 24 D2.toArray by rw [← hV]; exact HY1.out.alloc _)
  have HT := Aside0.mk (show Blk V g 47 #[.int .u64 s, .int .u64 t, .slice A1 a.length c1, .slice A2 b.length c2] by rw [← hV]; exact HT1.out.alloc _)
  have HP := Aside0.mk (show Blk V q 24 P.toArray by rw [← hV]; exact HP1.out.alloc _)
  have HZ := Aside0.mk (show Blk V z 24 D3.toArray by rw [← hV, ← hz]; exact blk_new _ _)
  have HB := Aside0.mk (show Below w.heap.size w V by rw [← hV]; exact below_alloc HB1.out _)
  rw [hV, hz]
  clear hV hz HX1 HY1 HT1 HP1 HB1
  dsimp only [Act.put]
  go_cut [10] from 39 to 50 (fun s10 wx => s10 = .bool (decide (s = t ∧ a = b)) ∧ Below V.heap.size V wx)
  case first =>
    have ⟨hc0, hc1, hc2, hc3⟩ := two_cells HT.out
    by_cases hst : s = t
    · have hq1 : (s == t) = true := by simp [hst]
      have hq2 : decide (s = t) = true := by simp [hst]
      have HST := Aside0.mk hst
      clear hst
      go_wp2_with (fail)
      refine (HSM.out _ (Kd.C_below HR1.out HB.out) (Kd.C_below HR2.out HB.out)).mono ?_
      rintro e v2 ⟨rfl, hd⟩
      have hb := hd.below
      go_wp2_with (fail)
      go_meet
      case rel => exact ⟨by simp [HST.out], hb⟩
    · have hq1 : (s == t) = false := by simp [hst]
      have hq2 : decide (s = t) = false := by simp [hst]
      have HST := Aside0.mk hst
      clear hst
      go_wp2_with (fail)
      go_meet
      case rel => exact ⟨by simp [HST.out], Below.refl _ _⟩
  case rest =>
  obtain ⟨rfl, hb⟩ := hcut
  obtain ⟨sm, hsm⟩ : ∃ k, decide (s = t ∧ a = b) = k := ⟨_, rfl⟩
  have HX1 := Aside0.mk (HX.out.below hb)
  have HY1 := Aside0.mk (HY.out.below hb)
  have HZ1 := Aside0.mk (HZ.out.below hb)
  have HT1 := Aside0.mk (HT.out.below hb)
  have HP1 := Aside0.mk (HP.out.below hb)
  have HB1 := Aside0.mk (below_step HB.out hb)
  have HSME := Aside0.mk hsm
  rw [hsm]
  clear hb HX HY HT HP HB HZ hsm
  go_upto_region 6 with (fail)
  have hu24 := Try.underlying24
  refine wp_region_held_drew (S := fun w' => (w'.cell? ⟨g, 0, none⟩ = some (.int .u64 s) ∧ w'.cell? ⟨g, 0 + 1, none⟩ = some (.int .u64 t) ∧ w'.cell? ⟨g, 0 + 2, none⟩ = some (.slice A1 a.length c1) ∧ w'.cell? ⟨g, 0 + 3, none⟩ = some (.slice A2 b.length c2)) ∧ w'.rangeAt q 0 P ∧ w'.rangeAt x 0 D1) (by kernel_rfl) (And.intro (two_cells HT1.out) (And.intro HP1.out.range HX1.out.range)) (fun hHeld => ?_)
  (refine wpAnyH_take (i := 0) (v := ?_) rfl (by kernel_rfl) (by kernel_rfl) (by kernel_rfl) (fun _ _ _ h => h) (Or.inl ⟨by rfl, ?_⟩) (by assumption) ?_; (case' refine_2 => (intro w hSw; go_simp; try with_reducible rfl)); (try simp only [Act.put, List.getElem_toArray, List.getElem_cons_zero, List.getElem_cons_succ, List.setIfInBounds_toArray, List.set_cons_zero, List.set_cons_succ]))
  (refine wpAnyH_take (i := 1) (v := ?_) rfl (by kernel_rfl) (by kernel_rfl) (by kernel_rfl) (fun _ _ _ h => h) (Or.inl ⟨by rfl, ?_⟩) (by assumption) ?_; (case' refine_2 => (intro w hSw; go_simp; try with_reducible rfl)); (try simp only [Act.put, List.getElem_toArray, List.getElem_cons_zero, List.getElem_cons_succ, List.setIfInBounds_toArray, List.set_cons_zero, List.set_cons_succ]))
  (refine wpAnyH_take (i := 2) (v := ?_) rfl (by kernel_rfl) (by kernel_rfl) (by kernel_rfl) (fun _ _ _ h => h) (Or.inl ⟨by rfl, ?_⟩) (by assumption) ?_; (case' refine_2 => (intro w hSw; go_simp; try with_reducible rfl)); (try simp only [Act.put, List.getElem_toArray, List.getElem_cons_zero, List.getElem_cons_succ, List.setIfInBounds_toArray, List.set_cons_zero, List.set_cons_succ]))
  (refine wpAnyH_take (i := 3) (v := ?_) rfl (by kernel_rfl) (by kernel_rfl) (by kernel_rfl) (fun _ _ _ h => h) (Or.inl ⟨by rfl, ?_⟩) (by assumption) ?_; (case' refine_2 => (intro w hSw; go_simp; try with_reducible rfl)); (try simp only [Act.put, List.getElem_toArray, List.getElem_cons_zero, List.getElem_cons_succ, List.setIfInBounds_toArray, List.set_cons_zero, List.set_cons_succ]))
  (refine wpAnyH_take (i := 5) (v := ?_) rfl (by kernel_rfl) (by kernel_rfl) (by kernel_rfl) (fun _ _ _ h => h) (Or.inl ⟨by rfl, ?_⟩) (by assumption) ?_; (case' refine_2 => (intro w hSw; go_simp; try with_reducible rfl)); (try simp only [Act.put, List.getElem_toArray, List.getElem_cons_zero, List.getElem_cons_succ, List.setIfInBounds_toArray, List.set_cons_zero, List.set_cons_succ]))
  (refine wpAnyH_take (i := 6) (v := ?_) rfl (by kernel_rfl) (by kernel_rfl) (by kernel_rfl) (fun _ _ _ h => h) (Or.inl ⟨by rfl, ?_⟩) (by assumption) ?_; (case' refine_2 => (intro w hSw; go_simp; try with_reducible rfl)); (try simp only [Act.put, List.getElem_toArray, List.getElem_cons_zero, List.getElem_cons_succ, List.setIfInBounds_toArray, List.set_cons_zero, List.set_cons_succ]))
  (refine wpAnyH_take (i := 7) (v := ?_) rfl (by kernel_rfl) (by kernel_rfl) (by kernel_rfl) (fun _ _ _ h => h) (Or.inl ⟨by rfl, ?_⟩) (by assumption) ?_; (case' refine_2 => (intro w hSw; go_simp; try with_reducible rfl)); (try simp only [Act.put, List.getElem_toArray, List.getElem_cons_zero, List.getElem_cons_succ, List.setIfInBounds_toArray, List.set_cons_zero, List.set_cons_succ]))
  (refine wpAnyH_take (i := 8) (v := ?_) rfl (by kernel_rfl) (by kernel_rfl) (by kernel_rfl) (fun _ _ _ h => h) (Or.inl ⟨by rfl, ?_⟩) (by assumption) ?_; (case' refine_2 => (intro w hSw; go_simp; try with_reducible rfl)); (try simp only [Act.put, List.getElem_toArray, List.getElem_cons_zero, List.getElem_cons_succ, List.setIfInBounds_toArray, List.set_cons_zero, List.set_cons_succ]))
  (refine wpAnyH_take (i := 10) (v := ?_) rfl (by kernel_rfl) (by kernel_rfl) (by kernel_rfl) (fun _ _ _ h => h) (Or.inl ⟨by rfl, ?_⟩) (by assumption) ?_; (case' refine_2 => (intro w hSw; go_simp; try with_reducible rfl)); (try simp only [Act.put, List.getElem_toArray, List.getElem_cons_zero, List.getElem_cons_succ, List.setIfInBounds_toArray, List.set_cons_zero, List.set_cons_succ]))
  (refine wpAnyH_take (i := 11) rfl (by kernel_rfl) (by kernel_rfl) (by kernel_rfl) (fun _ _ _ h => h) (yieldsIf_load_mid (by rfl) _ _ rfl _ _ rfl _ _ (fun _ h => h.2.1) (by assumption) rfl HIP.out) (by assumption) ?_; (try simp only [Act.put, List.getElem_toArray, List.getElem_cons_zero, List.getElem_cons_succ, List.setIfInBounds_toArray, List.set_cons_zero, List.set_cons_succ]))
  (refine wpAnyH_take (i := 12) rfl (by kernel_rfl) (by kernel_rfl) (by kernel_rfl) (fun _ _ _ h => h) (yieldsIf_load_mid (by rfl) _ _ rfl _ _ rfl _ _ (fun _ h => h.2.2) (by assumption) rfl HI1.out) (by assumption) ?_; (try simp only [Act.put, List.getElem_toArray, List.getElem_cons_zero, List.getElem_cons_succ, List.setIfInBounds_toArray, List.set_cons_zero, List.set_cons_succ]))
  (refine wpAnyH_ready (rs := [4]) (by kernel_rfl) (by simp) (AllReadyH.cons rfl (fun K hK => ?_) AllReadyH.nil); go_simp)
  refine (HTX1.out _ (Kd.C_below HR1.out (below_drew1 HB1.out))).mono ?_
  rintro e v4 ⟨v, rfl, ho, hb0⟩
  have hb := below_drew_of hb0
  have HX4 := Aside0.mk (HX1.out.below hb)
  have HY4 := Aside0.mk (HY1.out.below hb)
  have HZ4 := Aside0.mk (HZ1.out.below hb)
  have HT4 := Aside0.mk (HT1.out.below hb)
  have HP4 := Aside0.mk (HP1.out.below hb)
  have HB4 := Aside0.mk (below_step HB1.out hb)
  clear HX1
  clear HY1
  clear HZ1
  clear HT1
  clear HP1
  clear HB1
  clear hb hb0
  obtain ⟨Ai, ci, rfl, hl_, hr_⟩ := Ob.reads ho; have HRi := Aside0.mk hr_; have HLi := Aside0.mk hl_; clear ho hl_ hr_
  (refine Shut.out hK _ _ (And.intro (two_cells HT4.out) (And.intro HP4.out.range HX4.out.range)) (fun hHeld => ?_); clear hK K; (try simp only [Act.put, List.getElem_toArray, List.getElem_cons_zero, List.getElem_cons_succ, List.setIfInBounds_toArray, List.set_cons_zero, List.set_cons_succ]))
  (refine wpAnyH_ready (rs := [9]) (by kernel_rfl) (by simp) (AllReadyH.cons rfl (fun K hK => ?_) AllReadyH.nil); go_simp)
  refine (HTX2.out _ (Kd.C_below HR2.out HB4.out)).mono ?_
  rintro e v5 ⟨v, rfl, ho, hb⟩
  have HX5 := Aside0.mk (HX4.out.below hb)
  have HY5 := Aside0.mk (HY4.out.below hb)
  have HZ5 := Aside0.mk (HZ4.out.below hb)
  have HT5 := Aside0.mk (HT4.out.below hb)
  have HP5 := Aside0.mk (HP4.out.below hb)
  have HB5 := Aside0.mk (below_step HB4.out hb)
  clear HX4
  clear HY4
  clear HZ4
  clear HT4
  clear HP4
  clear HB4
  have n1_ := Aside0.mk (Kd.C_below HRi.out hb)
  clear HRi hb
  have HRi := n1_
  clear n1_
  obtain ⟨Aj, cj, rfl, hl_, hr_⟩ := Ob.reads ho; have HRj := Aside0.mk hr_; have HLj := Aside0.mk hl_; clear ho hl_ hr_
  (refine Shut.out hK _ _ (And.intro (two_cells HT5.out) (And.intro HP5.out.range HX5.out.range)) (fun hHeld => ?_); clear hK K; (try simp only [Act.put, List.getElem_toArray, List.getElem_cons_zero, List.getElem_cons_succ, List.setIfInBounds_toArray, List.set_cons_zero, List.set_cons_succ]))
  (refine wpAnyH_ready (rs := [13]) (by kernel_rfl) (by simp) (AllReadyH.cons rfl (fun K hK => ?_) AllReadyH.nil); go_simp)
  refine (HLT.out _).mono ?_
  rintro e v6 ⟨v, rfl, ho, hb⟩
  have HX6 := Aside0.mk (HX5.out.below hb)
  have HY6 := Aside0.mk (HY5.out.below hb)
  have HZ6 := Aside0.mk (HZ5.out.below hb)
  have HT6 := Aside0.mk (HT5.out.below hb)
  have HP6 := Aside0.mk (HP5.out.below hb)
  have HB6 := Aside0.mk (below_step HB5.out hb)
  clear HX5
  clear HY5
  clear HZ5
  clear HT5
  clear HP5
  clear HB5
  have n1_ := Aside0.mk (Kd.C_below HRi.out hb)
  have n2_ := Aside0.mk (Kd.C_below HRj.out hb)
  clear HRi HRj hb
  have HRi := n1_
  have HRj := n2_
  clear n1_ n2_
  obtain ⟨Ak, ck, rfl, hl_, hr_⟩ := Ob.reads ho; have HRk := Aside0.mk hr_; have HLk := Aside0.mk hl_; clear ho hl_ hr_
  (refine Shut.out hK _ _ (And.intro (two_cells HT6.out) (And.intro HP6.out.range HX6.out.range)) (fun hHeld => ?_); clear hK K; (try simp only [Act.put, List.getElem_toArray, List.getElem_cons_zero, List.getElem_cons_succ, List.setIfInBounds_toArray, List.set_cons_zero, List.set_cons_succ]))
  (refine wpAnyH_take (i := 14) (v := ?_) rfl (by kernel_rfl) (by kernel_rfl) (by kernel_rfl) (fun _ _ _ h => h) (Or.inl ⟨by rfl, ?_⟩) (by assumption) ?_; (case' refine_2 => (intro w hSw; go_simp; try with_reducible rfl)); (try simp only [Act.put, List.getElem_toArray, List.getElem_cons_zero, List.getElem_cons_succ, List.setIfInBounds_toArray, List.set_cons_zero, List.set_cons_succ]))
  (refine wpAnyH_take (i := 15) (v := ?_) rfl (by kernel_rfl) (by kernel_rfl) (by kernel_rfl) (fun _ _ _ h => h) (Or.inl ⟨by rfl, ?_⟩) (by assumption) ?_; (case' refine_2 => (intro w hSw; go_simp; try with_reducible rfl)); (try simp only [Act.put, List.getElem_toArray, List.getElem_cons_zero, List.getElem_cons_succ, List.setIfInBounds_toArray, List.set_cons_zero, List.set_cons_succ]))
  (refine wpAnyH_take (i := 16) (v := ?_) rfl (by kernel_rfl) (by kernel_rfl) (by kernel_rfl) (fun _ _ _ h => h) (Or.inl ⟨by rfl, ?_⟩) (by assumption) ?_; (case' refine_2 => (intro w hSw; go_simp; try with_reducible rfl)); (try simp only [Act.put, List.getElem_toArray, List.getElem_cons_zero, List.getElem_cons_succ, List.setIfInBounds_toArray, List.set_cons_zero, List.set_cons_succ]))
  refine wpAnyH_done (by kernel_rfl) ?_ _
  go_upto_region 7 with (fail)
  have ⟨⟨hs0, hs1⟩, ⟨ht0, ht1⟩, ⟨hu1, hu2⟩, ⟨hl1, hl2⟩, hp, hpu⟩ := HCX.out
  have HNQ := Aside0.mk (fun (h : comB s a = comB t b) => comB_inj hs0 hs1 ht0 ht1 (by omega) (by omega) h)
  have HN1 := Aside0.mk (show (comB s a).length ≤ 1000000 by have h_ := comB_len (b := a) hs1 (by omega); omega)
  have HRO1 := Aside0.mk (fun A c W (h : Rb W A (comB s a)) (hc : (comB s a).length ≤ c) => rof_c A c (comB s a) W h hc (comB_u8 hs1 hu1 (by omega)) HN1.out)
  have HN2 := Aside0.mk (show (comB t b).length ≤ 1000000 by have h_ := comB_len (b := b) ht1 (by omega); omega)
  have HRO2 := Aside0.mk (fun A c W (h : Rb W A (comB t b)) (hc : (comB t b).length ≤ c) => rof_c A c (comB t b) W h hc (comB_u8 ht1 hu2 (by omega)) HN2.out)
  have HN3 := Aside0.mk (show (linkB seq p (shaB (comB s a))).length ≤ 1000000 by have h_ := linkB_len (seq := seq) hp (shaB_len (comB s a)); omega)
  have HRO3 := Aside0.mk (fun A c W (h : Rb W A (linkB seq p (shaB (comB s a)))) (hc : (linkB seq p (shaB (comB s a))).length ≤ c) => rof_c A c (linkB seq p (shaB (comB s a))) W h hc (linkB_u8 hpu (shaB_u8 _)) HN3.out)
  simp only [sumV] at HRO1 HRO2 HRO3
  rw [HD1.out] at HRO1
  rw [HD2.out] at HRO2
  rw [HD3.out] at HRO3
  have HSL1 := Aside0.mk (fun A0 c0 A1 c1 W h0 hc0 h1 hc1 => same_c A0 c0 (linkB seq p (shaB (comB s a))) A1 c1 (comB s a) W h0 hc0 h1 hc1 (by have := HN3.out; omega))
  have HSL2 := Aside0.mk (fun A0 c0 A1 c1 W h0 hc0 h1 hc1 => same_c A0 c0 (linkB seq p (shaB (comB s a))) A1 c1 (comB t b) W h0 hc0 h1 hc1 (by have := HN3.out; omega))
  have HSQ := Aside0.mk (fun A0 c0 A1 c1 W h0 hc0 h1 hc1 => same_c A0 c0 (comB s a) A1 c1 (comB t b) W h0 hc0 h1 hc1 (by have := HN1.out; omega))
  rw [decide_eq_false link_ne] at HSL1 HSL2
  have HE12 := Aside0.mk (run_eq_sum (shaB (comB s a)) (shaB (comB t b)) (shaB_len _) (shaB_len _))
  simp only [sumV] at HE12
  rw [HD1.out, HD2.out] at HE12
  have HE31 := Aside0.mk (run_eq_sum (shaB (linkB seq p (shaB (comB s a)))) (shaB (comB s a)) (shaB_len _) (shaB_len _))
  simp only [sumV] at HE31
  rw [HD3.out, HD1.out] at HE31
  have HE32 := Aside0.mk (run_eq_sum (shaB (linkB seq p (shaB (comB s a)))) (shaB (comB t b)) (shaB_len _) (shaB_len _))
  simp only [sumV] at HE32
  rw [HD3.out, HD2.out] at HE32
  have hguard := guard_32
  have HEQC := Aside0.mk (fun (h : s = t ∧ a = b) => (show comB s a = comB t b by rw [h.1, h.2]))
  clear hs0 hs1 ht0 ht1 hu1 hu2 hl1 hl2 hp hpu
  obtain ⟨L1, hL1⟩ : ∃ l, comB s a = l := ⟨_, rfl⟩
  obtain ⟨L2, hL2⟩ : ∃ l, comB t b = l := ⟨_, rfl⟩
  obtain ⟨d1, hd1_⟩ : ∃ l, shaB (comB s a) = l := ⟨_, rfl⟩
  obtain ⟨d2, hd2_⟩ : ∃ l, shaB (comB t b) = l := ⟨_, rfl⟩
  have HDD := Aside0.mk (show comB s a = comB t b → d1 = d2 from fun h => by rw [← hd1_, ← hd2_, h])
  rw [hd1_] at HRO3 HSL1 HSL2 HE31 HE32 HE12 HN3 HRk HLk
  rw [hd1_]
  rw [hd2_] at HE32 HE12
  obtain ⟨L3, hL3⟩ : ∃ l, linkB seq p d1 = l := ⟨_, rfl⟩
  rw [hL3] at HRO3 HSL1 HSL2 HE31 HE32 HN3 HRk HLk
  rw [hL1] at HRO1 HSQ HSL1 HN1 HRi HLi HNQ HDD HEQC
  rw [hL2] at HRO2 HSQ HSL2 HN2 HRj HLj HNQ HDD HEQC
  rw [hL1, hL2, hL3]
  obtain ⟨d3, hd3_⟩ : ∃ l, shaB L3 = l := ⟨_, rfl⟩
  rw [hd3_] at HE31 HE32
  clear hL1 hL2 hL3 hd1_ hd2_ hd3_ HD1 HD2 HD3 HCX HLK HLT HTX1 HTX2 HOF1 HOF2 HSM
  by_cases hs : s = t ∧ a = b
  · have h12 := HDD.out (HEQC.out hs)
    have hsm : true = sm := by rw [← HSME.out]; exact (decide_eq_true hs).symm
    subst hsm
    have heq12 := HE12.out
    rw [decide_eq_true h12] at heq12
    by_cases h31 : d3 = d1
    · have h32 : d3 = d2 := h31.trans h12
      have heq31 := HE31.out
      rw [decide_eq_true h31] at heq31
      clear hs h12 h31 h32 HSME
      go_wp2_with (first | ((with_reducible refine gate_dst (N := 67) rfl ?_); (try (refine gate_guard (by rfl) ?_; dsimp only)); refine wpList_load_row rfl 24 (.tmp 7) rfl x rfl 24 D1.toArray (0, 0) _ (by exact HX6.out) Try.underlying24 rfl HIA1.out ?_) | ((with_reducible refine gate_dst (N := 68) rfl ?_); (try (refine gate_guard (by rfl) ?_; dsimp only)); refine wpList_load_row rfl 24 (.tmp 8) rfl y rfl 24 D2.toArray (0, 0) _ (by exact HY6.out) Try.underlying24 rfl HIA2.out ?_) | ((with_reducible refine gate_dst (N := 74) rfl ?_); (try (refine gate_guard (by rfl) ?_; dsimp only)); refine wpList_load_row rfl 24 (.tmp 7) rfl x rfl 24 D1.toArray (0, 0) _ (by exact HX6.out) Try.underlying24 rfl HIA1.out ?_) | ((with_reducible refine gate_dst (N := 75) rfl ?_); (try (refine gate_guard (by rfl) ?_; dsimp only)); refine wpList_load_row rfl 24 (.tmp 8) rfl y rfl 24 D2.toArray (0, 0) _ (by exact HY6.out) Try.underlying24 rfl HIA2.out ?_) | ((with_reducible refine gate_dst (N := 92) rfl ?_); (try (refine gate_guard (by rfl) ?_; dsimp only)); refine wpList_load_row rfl 24 (.tmp 9) rfl z rfl 24 D3.toArray (0, 0) _ (by exact HZ6.out) Try.underlying24 rfl HIA3.out ?_) | ((with_reducible refine gate_dst (N := 93) rfl ?_); (try (refine gate_guard (by rfl) ?_; dsimp only)); refine wpList_load_row rfl 24 (.tmp 7) rfl x rfl 24 D1.toArray (0, 0) _ (by exact HX6.out) Try.underlying24 rfl HIA1.out ?_) | ((with_reducible refine gate_dst (N := 96) rfl ?_); (try (refine gate_guard (by rfl) ?_; dsimp only)); refine wpList_load_row rfl 24 (.tmp 9) rfl z rfl 24 D3.toArray (0, 0) _ (by exact HZ6.out) Try.underlying24 rfl HIA3.out ?_) | ((with_reducible refine gate_dst (N := 97) rfl ?_); (try (refine gate_guard (by rfl) ?_; dsimp only)); refine wpList_load_row rfl 24 (.tmp 8) rfl y rfl 24 D2.toArray (0, 0) _ (by exact HY6.out) Try.underlying24 rfl HIA2.out ?_))
      refine (HRO3.out _ _ _ HRk.out HLk.out).mono ?_
      rintro e r1 ⟨rfl, hb⟩
      have n0_ := Aside0.mk (below_step HB6.out hb)
      have ni_ := Aside0.mk (Kd.C_below HRi.out hb)
      have nj_ := Aside0.mk (Kd.C_below HRj.out hb)
      have nk_ := Aside0.mk (Kd.C_below HRk.out hb)
      clear HRi HRj HRk hb
      have HBr := n0_
      have HRi := ni_
      have HRj := nj_
      have HRk := nk_
      clear n0_ ni_ nj_ nk_
      go_wp2_with (fail)
      refine (HRO1.out _ _ _ HRi.out HLi.out).mono ?_
      rintro e r2 ⟨rfl, hb⟩
      have n0_ := Aside0.mk (below_step HBr.out hb)
      have ni_ := Aside0.mk (Kd.C_below HRi.out hb)
      have nj_ := Aside0.mk (Kd.C_below HRj.out hb)
      have nk_ := Aside0.mk (Kd.C_below HRk.out hb)
      clear HRi HRj HRk HBr hb
      have HBr := n0_
      have HRi := ni_
      have HRj := nj_
      have HRk := nk_
      clear n0_ ni_ nj_ nk_
      go_wp2_with (fail)
      refine (HSL1.out _ _ _ _ _ HRk.out HLk.out HRi.out HLi.out).mono ?_
      rintro e r3 ⟨rfl, hd⟩
      have hb := hd.below
      have n0_ := Aside0.mk (below_step HBr.out hb)
      have ni_ := Aside0.mk (Kd.C_below HRi.out hb)
      have nj_ := Aside0.mk (Kd.C_below HRj.out hb)
      have nk_ := Aside0.mk (Kd.C_below HRk.out hb)
      clear HRi HRj HRk HBr hb hd
      have HBr := n0_
      have HRi := ni_
      have HRj := nj_
      have HRk := nk_
      clear n0_ ni_ nj_ nk_
      go_wp2_with (fail)
      refine (live7_c _).mono ?_
      rintro e r4 ⟨rfl, hb⟩
      have n0_ := Aside0.mk (below_step HBr.out hb)
      have ni_ := Aside0.mk (Kd.C_below HRi.out hb)
      have nj_ := Aside0.mk (Kd.C_below HRj.out hb)
      have nk_ := Aside0.mk (Kd.C_below HRk.out hb)
      clear HRi HRj HRk HBr hb
      have HBr := n0_
      have HRi := ni_
      have HRj := nj_
      have HRk := nk_
      clear n0_ ni_ nj_ nk_
      go_wp2_with (fail)
      go_ret
      exact ⟨rfl, HBr.out⟩
    · have h32 : d3 ≠ d2 := fun h => h31 (h.trans h12.symm)
      have heq31 := HE31.out
      rw [decide_eq_false h31] at heq31
      have heq32 := HE32.out
      rw [decide_eq_false h32] at heq32
      clear hs h12 h31 h32 HSME
      go_wp2_with (first | ((with_reducible refine gate_dst (N := 67) rfl ?_); (try (refine gate_guard (by rfl) ?_; dsimp only)); refine wpList_load_row rfl 24 (.tmp 7) rfl x rfl 24 D1.toArray (0, 0) _ (by exact HX6.out) Try.underlying24 rfl HIA1.out ?_) | ((with_reducible refine gate_dst (N := 68) rfl ?_); (try (refine gate_guard (by rfl) ?_; dsimp only)); refine wpList_load_row rfl 24 (.tmp 8) rfl y rfl 24 D2.toArray (0, 0) _ (by exact HY6.out) Try.underlying24 rfl HIA2.out ?_) | ((with_reducible refine gate_dst (N := 74) rfl ?_); (try (refine gate_guard (by rfl) ?_; dsimp only)); refine wpList_load_row rfl 24 (.tmp 7) rfl x rfl 24 D1.toArray (0, 0) _ (by exact HX6.out) Try.underlying24 rfl HIA1.out ?_) | ((with_reducible refine gate_dst (N := 75) rfl ?_); (try (refine gate_guard (by rfl) ?_; dsimp only)); refine wpList_load_row rfl 24 (.tmp 8) rfl y rfl 24 D2.toArray (0, 0) _ (by exact HY6.out) Try.underlying24 rfl HIA2.out ?_) | ((with_reducible refine gate_dst (N := 92) rfl ?_); (try (refine gate_guard (by rfl) ?_; dsimp only)); refine wpList_load_row rfl 24 (.tmp 9) rfl z rfl 24 D3.toArray (0, 0) _ (by exact HZ6.out) Try.underlying24 rfl HIA3.out ?_) | ((with_reducible refine gate_dst (N := 93) rfl ?_); (try (refine gate_guard (by rfl) ?_; dsimp only)); refine wpList_load_row rfl 24 (.tmp 7) rfl x rfl 24 D1.toArray (0, 0) _ (by exact HX6.out) Try.underlying24 rfl HIA1.out ?_) | ((with_reducible refine gate_dst (N := 96) rfl ?_); (try (refine gate_guard (by rfl) ?_; dsimp only)); refine wpList_load_row rfl 24 (.tmp 9) rfl z rfl 24 D3.toArray (0, 0) _ (by exact HZ6.out) Try.underlying24 rfl HIA3.out ?_) | ((with_reducible refine gate_dst (N := 97) rfl ?_); (try (refine gate_guard (by rfl) ?_; dsimp only)); refine wpList_load_row rfl 24 (.tmp 8) rfl y rfl 24 D2.toArray (0, 0) _ (by exact HY6.out) Try.underlying24 rfl HIA2.out ?_))
      refine (live7_c _).mono ?_
      rintro e r1 ⟨rfl, hb⟩
      have n0_ := Aside0.mk (below_step HB6.out hb)
      have ni_ := Aside0.mk (Kd.C_below HRi.out hb)
      have nj_ := Aside0.mk (Kd.C_below HRj.out hb)
      have nk_ := Aside0.mk (Kd.C_below HRk.out hb)
      clear HRi HRj HRk hb
      have HBr := n0_
      have HRi := ni_
      have HRj := nj_
      have HRk := nk_
      clear n0_ ni_ nj_ nk_
      go_wp2_with (fail)
      go_ret
      exact ⟨rfl, HBr.out⟩
  · have hlq : ¬ L1 = L2 := fun h => hs (HNQ.out h)
    have hsm : false = sm := by rw [← HSME.out]; exact (decide_eq_false hs).symm
    subst hsm
    rw [decide_eq_false hlq] at HSQ
    by_cases h12 : d1 = d2
    · skip
      have heq12 := HE12.out
      rw [decide_eq_true h12] at heq12
      clear hs h12 hlq HSME
      go_wp2_with (first | ((with_reducible refine gate_dst (N := 67) rfl ?_); (try (refine gate_guard (by rfl) ?_; dsimp only)); refine wpList_load_row rfl 24 (.tmp 7) rfl x rfl 24 D1.toArray (0, 0) _ (by exact HX6.out) Try.underlying24 rfl HIA1.out ?_) | ((with_reducible refine gate_dst (N := 68) rfl ?_); (try (refine gate_guard (by rfl) ?_; dsimp only)); refine wpList_load_row rfl 24 (.tmp 8) rfl y rfl 24 D2.toArray (0, 0) _ (by exact HY6.out) Try.underlying24 rfl HIA2.out ?_) | ((with_reducible refine gate_dst (N := 74) rfl ?_); (try (refine gate_guard (by rfl) ?_; dsimp only)); refine wpList_load_row rfl 24 (.tmp 7) rfl x rfl 24 D1.toArray (0, 0) _ (by exact HX6.out) Try.underlying24 rfl HIA1.out ?_) | ((with_reducible refine gate_dst (N := 75) rfl ?_); (try (refine gate_guard (by rfl) ?_; dsimp only)); refine wpList_load_row rfl 24 (.tmp 8) rfl y rfl 24 D2.toArray (0, 0) _ (by exact HY6.out) Try.underlying24 rfl HIA2.out ?_) | ((with_reducible refine gate_dst (N := 92) rfl ?_); (try (refine gate_guard (by rfl) ?_; dsimp only)); refine wpList_load_row rfl 24 (.tmp 9) rfl z rfl 24 D3.toArray (0, 0) _ (by exact HZ6.out) Try.underlying24 rfl HIA3.out ?_) | ((with_reducible refine gate_dst (N := 93) rfl ?_); (try (refine gate_guard (by rfl) ?_; dsimp only)); refine wpList_load_row rfl 24 (.tmp 7) rfl x rfl 24 D1.toArray (0, 0) _ (by exact HX6.out) Try.underlying24 rfl HIA1.out ?_) | ((with_reducible refine gate_dst (N := 96) rfl ?_); (try (refine gate_guard (by rfl) ?_; dsimp only)); refine wpList_load_row rfl 24 (.tmp 9) rfl z rfl 24 D3.toArray (0, 0) _ (by exact HZ6.out) Try.underlying24 rfl HIA3.out ?_) | ((with_reducible refine gate_dst (N := 97) rfl ?_); (try (refine gate_guard (by rfl) ?_; dsimp only)); refine wpList_load_row rfl 24 (.tmp 8) rfl y rfl 24 D2.toArray (0, 0) _ (by exact HY6.out) Try.underlying24 rfl HIA2.out ?_))
      refine (HSQ.out _ _ _ _ _ HRi.out HLi.out HRj.out HLj.out).mono ?_
      rintro e r1 ⟨rfl, hd⟩
      have hb := hd.below
      have n0_ := Aside0.mk (below_step HB6.out hb)
      have ni_ := Aside0.mk (Kd.C_below HRi.out hb)
      have nj_ := Aside0.mk (Kd.C_below HRj.out hb)
      have nk_ := Aside0.mk (Kd.C_below HRk.out hb)
      clear HRi HRj HRk hb hd
      have HBr := n0_
      have HRi := ni_
      have HRj := nj_
      have HRk := nk_
      clear n0_ ni_ nj_ nk_
      go_wp2_with (fail)
      refine (HRO1.out _ _ _ HRi.out HLi.out).mono ?_
      rintro e r2 ⟨rfl, hb⟩
      have n0_ := Aside0.mk (below_step HBr.out hb)
      have ni_ := Aside0.mk (Kd.C_below HRi.out hb)
      have nj_ := Aside0.mk (Kd.C_below HRj.out hb)
      have nk_ := Aside0.mk (Kd.C_below HRk.out hb)
      clear HRi HRj HRk HBr hb
      have HBr := n0_
      have HRi := ni_
      have HRj := nj_
      have HRk := nk_
      clear n0_ ni_ nj_ nk_
      go_wp2_with (fail)
      refine (HRO2.out _ _ _ HRj.out HLj.out).mono ?_
      rintro e r3 ⟨rfl, hb⟩
      have n0_ := Aside0.mk (below_step HBr.out hb)
      have ni_ := Aside0.mk (Kd.C_below HRi.out hb)
      have nj_ := Aside0.mk (Kd.C_below HRj.out hb)
      have nk_ := Aside0.mk (Kd.C_below HRk.out hb)
      clear HRi HRj HRk HBr hb
      have HBr := n0_
      have HRi := ni_
      have HRj := nj_
      have HRk := nk_
      clear n0_ ni_ nj_ nk_
      go_wp2_with (fail)
      refine (live7_c _).mono ?_
      rintro e r4 ⟨rfl, hb⟩
      have n0_ := Aside0.mk (below_step HBr.out hb)
      have ni_ := Aside0.mk (Kd.C_below HRi.out hb)
      have nj_ := Aside0.mk (Kd.C_below HRj.out hb)
      have nk_ := Aside0.mk (Kd.C_below HRk.out hb)
      clear HRi HRj HRk HBr hb
      have HBr := n0_
      have HRi := ni_
      have HRj := nj_
      have HRk := nk_
      clear n0_ ni_ nj_ nk_
      go_wp2_with (fail)
      go_ret
      exact ⟨rfl, HBr.out⟩
    · skip
      have heq12 := HE12.out
      rw [decide_eq_false h12] at heq12
      by_cases h31 : d3 = d1
      · skip
        have heq31 := HE31.out
        rw [decide_eq_true h31] at heq31
        clear hs h12 hlq h31 HSME
        go_wp2_with (first | ((with_reducible refine gate_dst (N := 67) rfl ?_); (try (refine gate_guard (by rfl) ?_; dsimp only)); refine wpList_load_row rfl 24 (.tmp 7) rfl x rfl 24 D1.toArray (0, 0) _ (by exact HX6.out) Try.underlying24 rfl HIA1.out ?_) | ((with_reducible refine gate_dst (N := 68) rfl ?_); (try (refine gate_guard (by rfl) ?_; dsimp only)); refine wpList_load_row rfl 24 (.tmp 8) rfl y rfl 24 D2.toArray (0, 0) _ (by exact HY6.out) Try.underlying24 rfl HIA2.out ?_) | ((with_reducible refine gate_dst (N := 74) rfl ?_); (try (refine gate_guard (by rfl) ?_; dsimp only)); refine wpList_load_row rfl 24 (.tmp 7) rfl x rfl 24 D1.toArray (0, 0) _ (by exact HX6.out) Try.underlying24 rfl HIA1.out ?_) | ((with_reducible refine gate_dst (N := 75) rfl ?_); (try (refine gate_guard (by rfl) ?_; dsimp only)); refine wpList_load_row rfl 24 (.tmp 8) rfl y rfl 24 D2.toArray (0, 0) _ (by exact HY6.out) Try.underlying24 rfl HIA2.out ?_) | ((with_reducible refine gate_dst (N := 92) rfl ?_); (try (refine gate_guard (by rfl) ?_; dsimp only)); refine wpList_load_row rfl 24 (.tmp 9) rfl z rfl 24 D3.toArray (0, 0) _ (by exact HZ6.out) Try.underlying24 rfl HIA3.out ?_) | ((with_reducible refine gate_dst (N := 93) rfl ?_); (try (refine gate_guard (by rfl) ?_; dsimp only)); refine wpList_load_row rfl 24 (.tmp 7) rfl x rfl 24 D1.toArray (0, 0) _ (by exact HX6.out) Try.underlying24 rfl HIA1.out ?_) | ((with_reducible refine gate_dst (N := 96) rfl ?_); (try (refine gate_guard (by rfl) ?_; dsimp only)); refine wpList_load_row rfl 24 (.tmp 9) rfl z rfl 24 D3.toArray (0, 0) _ (by exact HZ6.out) Try.underlying24 rfl HIA3.out ?_) | ((with_reducible refine gate_dst (N := 97) rfl ?_); (try (refine gate_guard (by rfl) ?_; dsimp only)); refine wpList_load_row rfl 24 (.tmp 8) rfl y rfl 24 D2.toArray (0, 0) _ (by exact HY6.out) Try.underlying24 rfl HIA2.out ?_))
        refine (HRO3.out _ _ _ HRk.out HLk.out).mono ?_
        rintro e r1 ⟨rfl, hb⟩
        have n0_ := Aside0.mk (below_step HB6.out hb)
        have ni_ := Aside0.mk (Kd.C_below HRi.out hb)
        have nj_ := Aside0.mk (Kd.C_below HRj.out hb)
        have nk_ := Aside0.mk (Kd.C_below HRk.out hb)
        clear HRi HRj HRk hb
        have HBr := n0_
        have HRi := ni_
        have HRj := nj_
        have HRk := nk_
        clear n0_ ni_ nj_ nk_
        go_wp2_with (fail)
        refine (HRO1.out _ _ _ HRi.out HLi.out).mono ?_
        rintro e r2 ⟨rfl, hb⟩
        have n0_ := Aside0.mk (below_step HBr.out hb)
        have ni_ := Aside0.mk (Kd.C_below HRi.out hb)
        have nj_ := Aside0.mk (Kd.C_below HRj.out hb)
        have nk_ := Aside0.mk (Kd.C_below HRk.out hb)
        clear HRi HRj HRk HBr hb
        have HBr := n0_
        have HRi := ni_
        have HRj := nj_
        have HRk := nk_
        clear n0_ ni_ nj_ nk_
        go_wp2_with (fail)
        refine (HSL1.out _ _ _ _ _ HRk.out HLk.out HRi.out HLi.out).mono ?_
        rintro e r3 ⟨rfl, hd⟩
        have hb := hd.below
        have n0_ := Aside0.mk (below_step HBr.out hb)
        have ni_ := Aside0.mk (Kd.C_below HRi.out hb)
        have nj_ := Aside0.mk (Kd.C_below HRj.out hb)
        have nk_ := Aside0.mk (Kd.C_below HRk.out hb)
        clear HRi HRj HRk HBr hb hd
        have HBr := n0_
        have HRi := ni_
        have HRj := nj_
        have HRk := nk_
        clear n0_ ni_ nj_ nk_
        go_wp2_with (fail)
        refine (live7_c _).mono ?_
        rintro e r4 ⟨rfl, hb⟩
        have n0_ := Aside0.mk (below_step HBr.out hb)
        have ni_ := Aside0.mk (Kd.C_below HRi.out hb)
        have nj_ := Aside0.mk (Kd.C_below HRj.out hb)
        have nk_ := Aside0.mk (Kd.C_below HRk.out hb)
        clear HRi HRj HRk HBr hb
        have HBr := n0_
        have HRi := ni_
        have HRj := nj_
        have HRk := nk_
        clear n0_ ni_ nj_ nk_
        go_wp2_with (fail)
        go_ret
        exact ⟨rfl, HBr.out⟩
      · skip
        have heq31 := HE31.out
        rw [decide_eq_false h31] at heq31
        by_cases h32 : d3 = d2
        · skip
          have heq32 := HE32.out
          rw [decide_eq_true h32] at heq32
          clear hs h12 hlq h31 h32 HSME
          go_wp2_with (first | ((with_reducible refine gate_dst (N := 67) rfl ?_); (try (refine gate_guard (by rfl) ?_; dsimp only)); refine wpList_load_row rfl 24 (.tmp 7) rfl x rfl 24 D1.toArray (0, 0) _ (by exact HX6.out) Try.underlying24 rfl HIA1.out ?_) | ((with_reducible refine gate_dst (N := 68) rfl ?_); (try (refine gate_guard (by rfl) ?_; dsimp only)); refine wpList_load_row rfl 24 (.tmp 8) rfl y rfl 24 D2.toArray (0, 0) _ (by exact HY6.out) Try.underlying24 rfl HIA2.out ?_) | ((with_reducible refine gate_dst (N := 74) rfl ?_); (try (refine gate_guard (by rfl) ?_; dsimp only)); refine wpList_load_row rfl 24 (.tmp 7) rfl x rfl 24 D1.toArray (0, 0) _ (by exact HX6.out) Try.underlying24 rfl HIA1.out ?_) | ((with_reducible refine gate_dst (N := 75) rfl ?_); (try (refine gate_guard (by rfl) ?_; dsimp only)); refine wpList_load_row rfl 24 (.tmp 8) rfl y rfl 24 D2.toArray (0, 0) _ (by exact HY6.out) Try.underlying24 rfl HIA2.out ?_) | ((with_reducible refine gate_dst (N := 92) rfl ?_); (try (refine gate_guard (by rfl) ?_; dsimp only)); refine wpList_load_row rfl 24 (.tmp 9) rfl z rfl 24 D3.toArray (0, 0) _ (by exact HZ6.out) Try.underlying24 rfl HIA3.out ?_) | ((with_reducible refine gate_dst (N := 93) rfl ?_); (try (refine gate_guard (by rfl) ?_; dsimp only)); refine wpList_load_row rfl 24 (.tmp 7) rfl x rfl 24 D1.toArray (0, 0) _ (by exact HX6.out) Try.underlying24 rfl HIA1.out ?_) | ((with_reducible refine gate_dst (N := 96) rfl ?_); (try (refine gate_guard (by rfl) ?_; dsimp only)); refine wpList_load_row rfl 24 (.tmp 9) rfl z rfl 24 D3.toArray (0, 0) _ (by exact HZ6.out) Try.underlying24 rfl HIA3.out ?_) | ((with_reducible refine gate_dst (N := 97) rfl ?_); (try (refine gate_guard (by rfl) ?_; dsimp only)); refine wpList_load_row rfl 24 (.tmp 8) rfl y rfl 24 D2.toArray (0, 0) _ (by exact HY6.out) Try.underlying24 rfl HIA2.out ?_))
          refine (HRO3.out _ _ _ HRk.out HLk.out).mono ?_
          rintro e r1 ⟨rfl, hb⟩
          have n0_ := Aside0.mk (below_step HB6.out hb)
          have ni_ := Aside0.mk (Kd.C_below HRi.out hb)
          have nj_ := Aside0.mk (Kd.C_below HRj.out hb)
          have nk_ := Aside0.mk (Kd.C_below HRk.out hb)
          clear HRi HRj HRk hb
          have HBr := n0_
          have HRi := ni_
          have HRj := nj_
          have HRk := nk_
          clear n0_ ni_ nj_ nk_
          go_wp2_with (fail)
          refine (HRO1.out _ _ _ HRi.out HLi.out).mono ?_
          rintro e r2 ⟨rfl, hb⟩
          have n0_ := Aside0.mk (below_step HBr.out hb)
          have ni_ := Aside0.mk (Kd.C_below HRi.out hb)
          have nj_ := Aside0.mk (Kd.C_below HRj.out hb)
          have nk_ := Aside0.mk (Kd.C_below HRk.out hb)
          clear HRi HRj HRk HBr hb
          have HBr := n0_
          have HRi := ni_
          have HRj := nj_
          have HRk := nk_
          clear n0_ ni_ nj_ nk_
          go_wp2_with (fail)
          refine (HRO3.out _ _ _ HRk.out HLk.out).mono ?_
          rintro e r3 ⟨rfl, hb⟩
          have n0_ := Aside0.mk (below_step HBr.out hb)
          have ni_ := Aside0.mk (Kd.C_below HRi.out hb)
          have nj_ := Aside0.mk (Kd.C_below HRj.out hb)
          have nk_ := Aside0.mk (Kd.C_below HRk.out hb)
          clear HRi HRj HRk HBr hb
          have HBr := n0_
          have HRi := ni_
          have HRj := nj_
          have HRk := nk_
          clear n0_ ni_ nj_ nk_
          go_wp2_with (fail)
          refine (HRO2.out _ _ _ HRj.out HLj.out).mono ?_
          rintro e r4 ⟨rfl, hb⟩
          have n0_ := Aside0.mk (below_step HBr.out hb)
          have ni_ := Aside0.mk (Kd.C_below HRi.out hb)
          have nj_ := Aside0.mk (Kd.C_below HRj.out hb)
          have nk_ := Aside0.mk (Kd.C_below HRk.out hb)
          clear HRi HRj HRk HBr hb
          have HBr := n0_
          have HRi := ni_
          have HRj := nj_
          have HRk := nk_
          clear n0_ ni_ nj_ nk_
          go_wp2_with (fail)
          refine (HSL2.out _ _ _ _ _ HRk.out HLk.out HRj.out HLj.out).mono ?_
          rintro e r5 ⟨rfl, hd⟩
          have hb := hd.below
          have n0_ := Aside0.mk (below_step HBr.out hb)
          have ni_ := Aside0.mk (Kd.C_below HRi.out hb)
          have nj_ := Aside0.mk (Kd.C_below HRj.out hb)
          have nk_ := Aside0.mk (Kd.C_below HRk.out hb)
          clear HRi HRj HRk HBr hb hd
          have HBr := n0_
          have HRi := ni_
          have HRj := nj_
          have HRk := nk_
          clear n0_ ni_ nj_ nk_
          go_wp2_with (fail)
          refine (live7_c _).mono ?_
          rintro e r6 ⟨rfl, hb⟩
          have n0_ := Aside0.mk (below_step HBr.out hb)
          have ni_ := Aside0.mk (Kd.C_below HRi.out hb)
          have nj_ := Aside0.mk (Kd.C_below HRj.out hb)
          have nk_ := Aside0.mk (Kd.C_below HRk.out hb)
          clear HRi HRj HRk HBr hb
          have HBr := n0_
          have HRi := ni_
          have HRj := nj_
          have HRk := nk_
          clear n0_ ni_ nj_ nk_
          go_wp2_with (fail)
          go_ret
          exact ⟨rfl, HBr.out⟩
        · skip
          have heq32 := HE32.out
          rw [decide_eq_false h32] at heq32
          clear hs h12 hlq h31 h32 HSME
          go_wp2_with (first | ((with_reducible refine gate_dst (N := 67) rfl ?_); (try (refine gate_guard (by rfl) ?_; dsimp only)); refine wpList_load_row rfl 24 (.tmp 7) rfl x rfl 24 D1.toArray (0, 0) _ (by exact HX6.out) Try.underlying24 rfl HIA1.out ?_) | ((with_reducible refine gate_dst (N := 68) rfl ?_); (try (refine gate_guard (by rfl) ?_; dsimp only)); refine wpList_load_row rfl 24 (.tmp 8) rfl y rfl 24 D2.toArray (0, 0) _ (by exact HY6.out) Try.underlying24 rfl HIA2.out ?_) | ((with_reducible refine gate_dst (N := 74) rfl ?_); (try (refine gate_guard (by rfl) ?_; dsimp only)); refine wpList_load_row rfl 24 (.tmp 7) rfl x rfl 24 D1.toArray (0, 0) _ (by exact HX6.out) Try.underlying24 rfl HIA1.out ?_) | ((with_reducible refine gate_dst (N := 75) rfl ?_); (try (refine gate_guard (by rfl) ?_; dsimp only)); refine wpList_load_row rfl 24 (.tmp 8) rfl y rfl 24 D2.toArray (0, 0) _ (by exact HY6.out) Try.underlying24 rfl HIA2.out ?_) | ((with_reducible refine gate_dst (N := 92) rfl ?_); (try (refine gate_guard (by rfl) ?_; dsimp only)); refine wpList_load_row rfl 24 (.tmp 9) rfl z rfl 24 D3.toArray (0, 0) _ (by exact HZ6.out) Try.underlying24 rfl HIA3.out ?_) | ((with_reducible refine gate_dst (N := 93) rfl ?_); (try (refine gate_guard (by rfl) ?_; dsimp only)); refine wpList_load_row rfl 24 (.tmp 7) rfl x rfl 24 D1.toArray (0, 0) _ (by exact HX6.out) Try.underlying24 rfl HIA1.out ?_) | ((with_reducible refine gate_dst (N := 96) rfl ?_); (try (refine gate_guard (by rfl) ?_; dsimp only)); refine wpList_load_row rfl 24 (.tmp 9) rfl z rfl 24 D3.toArray (0, 0) _ (by exact HZ6.out) Try.underlying24 rfl HIA3.out ?_) | ((with_reducible refine gate_dst (N := 97) rfl ?_); (try (refine gate_guard (by rfl) ?_; dsimp only)); refine wpList_load_row rfl 24 (.tmp 8) rfl y rfl 24 D2.toArray (0, 0) _ (by exact HY6.out) Try.underlying24 rfl HIA2.out ?_))
          refine (live7_c _).mono ?_
          rintro e r1 ⟨rfl, hb⟩
          have n0_ := Aside0.mk (below_step HB6.out hb)
          have ni_ := Aside0.mk (Kd.C_below HRi.out hb)
          have nj_ := Aside0.mk (Kd.C_below HRj.out hb)
          have nk_ := Aside0.mk (Kd.C_below HRk.out hb)
          clear HRi HRj HRk hb
          have HBr := n0_
          have HRi := ni_
          have HRj := nj_
          have HRk := nk_
          clear n0_ ni_ nj_ nk_
          go_wp2_with (fail)
          go_ret
          exact ⟨rfl, HBr.out⟩
end Go.Proofs.Ytbebkogkeepfoaa.Com
/- CommitBinds: the law's walk, as the row asks for it. -/
namespace Go.Proofs.Ytbebkogkeepfoaa.Com
set_option linter.unusedVariables false
open Go.RowKit Go.Proofs.Ytbebkogkeepfoaa.Base Go.Proofs.Ytbebkogkeepfoaa.TlvPlain Go.Proofs.Ytbebkogkeepfoaa.ShaPlain Go.Proofs.Ytbebkogkeepfoaa.Sha Go.Proofs.Ytbebkogkeepfoaa.Lo Go.Proofs.Ytbebkogkeepfoaa.Aid Go.Proofs.YtbebkogkeepfoaaW.PrintWords
abbrev DTwo : Kd (Int × Int × List Int × List Int) := Kd.pair (Kd.int .u64) (Kd.pair (Kd.int .u64) (Kd.pair (Kd.slice 5 (Kd.int .u8)) (Kd.slice 5 (Kd.int .u8))))
theorem bindsWalk (w : World) (x : Int × Int × List Int × List Int) (cs : Array Value) (hK : DTwo.K w x cs.toList) (ok : (Lit.int .u64 x.1).wf = true ∧ (Lit.int .u64 x.2.1).wf = true ∧ (∀ y ∈ x.2.2.1, (Lit.int .u8 y).wf = true) ∧ (∀ y ∈ x.2.2.2, (Lit.int .u8 y).wf = true))
    (seq : Int) (_ : (Lit.int .i64 seq).wf = true) (p : List Int) (cp : Array Value) (hp : (Kd.arr 32 (Kd.int .u8) (by decide)).K w p cp.toList) (okp : ∀ x ∈ p, (Lit.int .u8 x).wf = true) :
    Calls Try.prog 8 #[.agg cs, .int .i64 seq, .agg cp] w fun e w' => e = .returned (.bool true) ∧ Below w.heap.size w w' := by
  obtain ⟨rfl, hl⟩ := arr_sum hp
  obtain ⟨s, t, a, b⟩ := x
  obtain ⟨_, _, e0, rfl, _, _, e1, rfl, _, _, e2, ⟨A1, c1, rfl, hc1, hr1⟩, ⟨A2, c2, rfl, hc2, hr2⟩⟩ := hK
  subst e2
  subst e1
  have e : cs = #[.int .u64 s, .int .u64 t, .slice A1 a.length c1, .slice A2 b.length c2] := Array.toList_inj.1 e0
  subst e
  by_cases h : 1000 < a.length ∨ 1000 < b.length
  · exact binds_long w s t A1 A2 c1 c2 a b seq _ h
  · exact binds_short w s t (u64_wf ok.1).1 (u64_wf ok.1).2 (u64_wf ok.2.1).1 (u64_wf ok.2.1).2 A1 A2 c1 c2 a b hr1 hr2 hc1 hc2 (fun x hx => byte_wf (ok.2.2.1 x hx)) (fun x hx => byte_wf (ok.2.2.2 x hx)) (by omega) (by omega) seq p hl (fun x hx => byte_wf (okp x hx))
end Go.Proofs.Ytbebkogkeepfoaa.Com
