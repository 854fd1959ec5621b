import Derived.Test.YtbebkogkeepfoaaShaSum
/- sha: Of walked. -/
namespace Go.Proofs.Ytbebkogkeepfoaa.Sha
set_option linter.unusedVariables false
open Go.RowKit Go.Proofs.Ytbebkogkeepfoaa.Base Go.Proofs.Ytbebkogkeepfoaa.ShaPlain Go.Proofs.Ytbebkogkeepfoaa.Aid Go.Proofs.YtbebkogkeepfoaaW.PrintWords Go.Proofs.YtbebkogkeepfoaaW.PrintLast Go.Proofs.YtbebkogkeepfoaaW.PrintMore
def st0 : St := (ShaPlain.start, List.replicate 64 0, 0)
/-- The sum of bytes. -/
def shaB (b : List Int) : List Int := sumB (b.foldl put st0)
theorem shaB_len (b : List Int) : (shaB b).length = 32 := outN_len _ _
theorem shaB_u8 (b : List Int) : ∀ x ∈ shaB b, 0 ≤ x ∧ x ≤ 255 := outN_u8 _ _
theorem rows_at {w : World} {A : Option Addr} {l : List (List Int)} (h : Rr w A l) (k : Nat) (hk : k < l.length) : ∃ ad A1 c1, A = some ad ∧ w.cell? (ad.add k) = some (.slice A1 l[k].length c1) ∧ l[k].length ≤ c1 ∧ Rb w A1 l[k] := by
  obtain ⟨ad, hA, hc⟩ := h.2.2 (by omega)
  obtain ⟨cs, hl, ⟨A1, c1, hcs, h2, h3⟩, h4⟩ := hc k l[k] (List.getElem?_eq_getElem hk)
  refine ⟨ad, A1, c1, hA, ?_, h2, h3⟩
  have := h4 0 (.slice A1 l[k].length c1) (by rw [hcs]; rfl)
  rwa [show k * (Kd.slice 5 (Kd.int .u8)).sz + 0 = k from by show k * 1 + 0 = k; omega] at this
theorem reads_lt {w : World} {A : Option Addr} {b : List Int} (h : Rb w A b) : ∀ a, A = some a → 0 < b.length → a.block < w.heap.size := by
  intro a ha h0
  obtain ⟨ad, e, hc⟩ := Kd.at_int h 0 (by omega) (by omega)
  rw [ha] at e
  injection e with e
  subst e
  have := World.block_lt_of_cell? _ _ hc
  rwa [show (a.add (0 : Int).toNat).block = a.block from by unfold Addr.add; split <;> rfl] at this
def OfInv (w : World) (g : Nat) (st : St) (W : World) : Prop := HS w W g st ∧ Below w.heap.size w W ∧ W.heap[w.heap.size]? = some (.cells (nums .u8 (List.replicate 32 0)).toArray 24 (0, 0)) ∧ w.heap.size ≠ g
theorem flat_take (l : List (List Int)) (k : Nat) (hk : k < l.length) : (l.take (k + 1)).flatten = (l.take k).flatten ++ l[k] := by
  rw [Aid.take_snoc l k hk, List.flatten_append]; simp
set_option maxHeartbeats 4000000 in
set_option maxRecDepth 100000 in
theorem of_c (A : Option Addr) (c : Nat) (l : List (List Int)) (w : World) (hr : Rr w A l) (hc : l.length ≤ c) (hu : ∀ p ∈ l, ∀ x ∈ p, 0 ≤ x ∧ x ≤ 255) (hn : l.flatten.length ≤ 1000000000000) (hl : l.length ≤ 4611686018427387904) :
    Calls Try.prog 14 #[.slice A l.length c] w fun e w' => e = .returned (.agg (nums .u8 (shaB l.flatten)).toArray) ∧ Below w.heap.size w w' := by
  have HR := Aside0.mk hr
  have HU := Aside0.mk hu
  have HN := Aside0.mk hn
  clear hr hu hn
  go_enter Try.func14, Try.ntmps14
  go_wp2_with (fail)
  refine (new_c _).mono ?_
  rintro e w1 ⟨g, rfl, hh, hb⟩
  have hz : (w.alloc (.cells (nums .u8 (List.replicate 32 0)).toArray 24)).heap[w.heap.size]? = _ := blk_new w _
  have hsz : (w.alloc (.cells (nums .u8 (List.replicate 32 0)).toArray 24)).heap.size = w.heap.size + 1 := by simp
  have hge : w.heap.size + 1 ≤ g := by rw [← hsz]; exact hh.1
  have H0 := Aside0.mk (show OfInv w g (List.foldl put st0 ((l.take 0).flatten)) w1 from ⟨⟨by omega, hh.2⟩, below_step (below_alloc (Below.refl _ _) _) hb, blk_below hz hb, by omega⟩)
  clear hh hb hz hsz hge
  go_wp2_with (fail)
  go_loopw [5, 9] (fun _ i wx => ∃ k : Nat, k ≤ l.length ∧ i = .int .i64 k ∧ OfInv w g (List.foldl put st0 ((l.take k).flatten)) wx) (fun _ i _ => l.length - (intOf i).toNat)
  case atStart => exact ⟨0, by omega, rfl, H0.out⟩
  case round =>
    clear H0
    obtain ⟨k, hk, rfl, hinv⟩ := hrel
    have HI := Aside0.mk hinv
    by_cases hlt : k < l.length
    · obtain ⟨ad, A1, c1, rfl, hcell, hc1, hrd⟩ := rows_at HR.out k hlt
      have hcw := (hinv.2.1.cell (World.block_lt_of_cell? _ _ hcell)).trans hcell
      have HP := Aside0.mk (Kd.C_below hrd hinv.2.1)
      have HC1 := Aside0.mk hc1
      have HNE := Aside0.mk (show ∀ a, A1 = some a → 0 < l[k].length → a.block ≠ g from fun a ha h0 => by
        have h1 := reads_lt hrd a ha h0
        have h2 := hinv.1.1
        omega)
      have HUK := Aside0.mk (HU.out l[k] (List.getElem_mem hlt))
      have HBN := Aside0.mk (show (List.foldl put st0 ((l.take k).flatten)).2.2 + l[k].length ≤ 1152921504606846976 by
        rw [puts_n]
        have h1 := congrArg List.length (flat_take l k hlt)
        have h2 : l.flatten.length = (l.take (k + 1)).flatten.length + (l.drop (k + 1)).flatten.length := by rw [← List.length_append, ← List.flatten_append, List.take_append_drop]
        have h3 := HN.out
        rw [List.length_append] at h1
        show 0 + (l.take k).flatten.length + _ ≤ _
        omega)
      obtain ⟨p, hp⟩ : ∃ p, l[k] = p := ⟨_, rfl⟩
      have HPE := Aside0.mk hp
      rw [hp] at hcw HP HC1 HNE HUK HBN
      clear hcell hc1 hrd hinv hp
      go_wp2_with (fail)
      refine (write_c w _ g _ A1 c1 p HI.out.1 HI.out.2.1 HP.out HC1.out HUK.out HNE.out HBN.out).mono ?_
      rintro e w2 ⟨rfl, h1, h2, h3⟩
      have HF := Aside0.mk (show OfInv w g (List.foldl put st0 ((l.take (k + 1)).flatten)) w2 from by
        refine ⟨?_, h2, h3.blk HI.out.2.2.1 HI.out.2.2.2 (by simp), HI.out.2.2.2⟩
        rw [flat_take l k hlt, List.foldl_append, HPE.out]
        exact h1)
      clear h1 h2 h3 hcw
      go_wp2_with (fail)
      go_roundw
      case rel => exact ⟨k + 1, by omega, by go_num, HF.out⟩
      case measure => simp [intOf]; omega
    · have HKE := Aside0.mk (show l.take k = l from List.take_of_length_le (by omega))
      have hge : l.length ≤ k := by omega
      have hi := hinv
      rw [HKE.out] at hi
      have HJ := Aside0.mk hi
      clear hinv hlt hk hi HI
      go_wp2_with (fail)
      have hj := HJ.out.1
      have hpn := puts_n l.flatten st0
      refine (sum_c wr g _ hj.2.1 hj.2.2.1 hj.2.2.2.1 hj.2.2.2.2.1 hj.2.2.2.2.2 (by rw [hpn]; have := HN.out; show 0 + _ ≤ _; omega)).mono ?_
      rintro e w3 ⟨rfl, h1⟩
      obtain ⟨D, hD⟩ : ∃ D, (nums .u8 (sumB (List.foldl put st0 l.flatten))).toArray = D := ⟨_, rfl⟩
      have hds : D.size = 32 := by rw [← hD]; simp [nums, sumB, outB, outN_len]
      have HI := Aside0.mk (show (Try.prog.info? 24).map (·.size) = some D.size by rw [hds]; exact info_32)
      have HONE := Aside0.mk (show D.all (·.oneCell') = true by rw [← hD]; exact nums_one _ _)
      have HFIN := Aside0.mk (show (nums .u8 (shaB l.flatten)).toArray = D from hD)
      obtain ⟨Z, hZ⟩ : ∃ Z, (nums .u8 (List.replicate 32 0)).toArray = Z := ⟨_, rfl⟩
      have h2 := blk_below HJ.out.2.2.1 h1
      rw [hZ] at h2
      have H2 := Aside0.mk h2
      have HZS := Aside0.mk (show Z.size = D.size by rw [hds, ← hZ]; simp [nums])
      have HBL := Aside0.mk (below_step HJ.out.2.1 h1)
      rw [hD]
      clear hj hpn hD hds hZ h1 h2
      go_wp2_with ((with_reducible refine gate_store (t := 24) (p := 2) (v := .tmp 18) rfl ?_); refine wpList_store_row rfl 24 (.tmp 2) (.tmp 18) rfl w.heap.size D rfl rfl 24 Z H2.out HI.out HZS.out HONE.out ?_)
      have HSR := setRow_heap w3 w.heap.size Z D _ _ H2.out
      refine bodyPost_ret (v := .agg D) (results_cell_row rfl _ _ w.heap.size 24 D (0, 0) _ rfl HSR Try.underlying24 rfl HI.out) rfl ⟨by rw [HFIN.out], below_setRow HBL.out (Nat.le_refl _) D⟩
end Go.Proofs.Ytbebkogkeepfoaa.Sha
