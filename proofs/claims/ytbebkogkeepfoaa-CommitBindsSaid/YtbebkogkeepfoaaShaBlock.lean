import Derived.Test.YtbebkogkeepfoaaShaWords
/- The document's block walked. -/
namespace Go.Proofs.Ytbebkogkeepfoaa.Sha
set_option linter.unusedVariables false
open Go.RowKit Go.Proofs.Ytbebkogkeepfoaa.Base Go.Proofs.Ytbebkogkeepfoaa.ShaPlain Go.Proofs.Ytbebkogkeepfoaa.Aid Go.Proofs.YtbebkogkeepfoaaW.PrintWords Go.Proofs.YtbebkogkeepfoaaW.PrintLast Go.Proofs.YtbebkogkeepfoaaW.PrintMore
theorem row_other {w : World} {q g : Nat} {o : Obj} {cs : Array Value} (hb : w.heap[q]? = some o) (hne : q ≠ g) : (w.setRow g cs).heap[q]? = some o := (setRow_other w g q cs hne).trans hb
/-- The cells of block's variables: the state, the answer, the words, the keys (q, q + 1) and the eight words under way (p). -/
def KInv (w : World) (q p : Nat) (s ws v : List Int) (wr : World) : Prop :=
  Words wr w.heap.size 36 s ∧ Words wr (w.heap.size + 1) 36 (List.replicate 8 0) ∧ Words wr q 89 ws ∧ Words wr (q + 1) 89 keys ∧ Words wr p 36 v ∧ w.heap.size + 2 ≤ q ∧ q + 2 ≤ p ∧ Below w.heap.size w wr
theorem KInv.drewN {w wr : World} {q p : Nat} {s ws v : List Int} (h : KInv w q p s ws v wr) (m : Nat) : KInv w q p s ws v (wr.drewN m) := ⟨h.1, h.2.1, h.2.2.1, h.2.2.2.1, h.2.2.2.2.1, h.2.2.2.2.2.1, h.2.2.2.2.2.2.1, pw_below_drewN h.2.2.2.2.2.2.2 m⟩
theorem KInv.row {w wr : World} {q p : Nat} {s ws v v' : List Int} (h : KInv w q p s ws v wr) : KInv w q p s ws v' (wr.setRow p (nums .u32 v').toArray) := by
  obtain ⟨h1, h2, h3, h4, h5, h6, h7, h8⟩ := h
  exact ⟨row_other h1 (by omega), row_other h2 (by omega), row_other h3 (by omega), row_other h4 (by omega), setRow_heap _ _ _ _ _ _ h5, h6, h7, below_setRow h8 (by omega) _⟩
theorem KInv.set_s {w wr : World} {q p : Nat} {s ws v : List Int} (h : KInv w q p s ws v wr) (i : Nat) (x : Int) : KInv w q p (s.set i x) ws v (wr.setCell ⟨w.heap.size, i, none⟩ (.int .u32 x)) := by
  obtain ⟨h1, h2, h3, h4, h5, h6, h7, h8⟩ := h
  have hk : ∀ k o, wr.heap[k]? = some o → k ≠ w.heap.size → (wr.setCell ⟨w.heap.size, i, none⟩ (.int .u32 x)).heap[k]? = some o := fun k o ho hne => (Below.heap_setCell wr ⟨w.heap.size, i, none⟩ _ k hne).trans ho
  exact ⟨h1.set i x, hk _ _ h2 (by omega), hk _ _ h3 (by omega), hk _ _ h4 (by omega), hk _ _ h5 (by omega), h6, h7, below_set h8 (Nat.le_refl _)⟩
theorem KInv.next {w wr : World} {q p k : Nat} {s ws : List Int} {v0 v1 v2 v3 v4 v5 v6 v7 X Y : Int} (h : KInv w q p s ws [v0, v1, v2, v3, v4, v5, v6, v7] wr) (hr : rounds s ws (k + 1) = [X, v0, v1, v2, Y, v4, v5, v6]) :
    KInv w q p s ws (rounds s ws (k + 1)) (wr.setRow p #[.int .u32 X, .int .u32 v0, .int .u32 v1, .int .u32 v2, .int .u32 Y, .int .u32 v4, .int .u32 v5, .int .u32 v6]) := by
  rw [hr]
  exact h.row
def addN (s v : List Int) : Nat → List Int
  | 0 => s
  | j + 1 => (addN s v j).set j ((s.getD j 0 + v.getD j 0) % 4294967296)
theorem addN_len (s v : List Int) : ∀ j, (addN s v j).length = s.length
  | 0 => rfl
  | j + 1 => by rw [addN, List.length_set, addN_len s v j]
theorem addN_get (s v : List Int) : ∀ j i, j ≤ i → (addN s v j).getD i 0 = s.getD i 0
  | 0, _, _ => rfl
  | j + 1, i, h => by
    rw [addN, List.getD_eq_getElem?_getD, List.getElem?_set_ne (by omega), ← List.getD_eq_getElem?_getD]
    exact addN_get s v j i (by omega)
theorem addN_all {s v : List Int} (hs : s.length = 8) (hv : v.length = 8) : addN s v 8 = List.zipWith (fun x y => m32 (x + y)) s v := by
  obtain ⟨s0, s1, s2, s3, s4, s5, s6, s7, rfl⟩ := len8 hs
  obtain ⟨v0, v1, v2, v3, v4, v5, v6, v7, rfl⟩ := len8 hv
  rfl
set_option maxHeartbeats 8000000 in
set_option maxRecDepth 100000 in
theorem block_c (A : Option Addr) (c : Nat) (b s : List Int) (w : World) (hr : Rb w A b) (hc : 64 ≤ c) (hl : b.length = 64) (hu : ∀ j, j < 64 → 0 ≤ b.getD j 0 ∧ b.getD j 0 ≤ 255) (hs : s.length = 8) (hsu : U32 s) :
    Calls Try.prog 45 #[wordsV s, .slice A 64 c] w fun e w' => e = .returned (wordsV (press s b)) ∧ Below w.heap.size w w' := by
  have HR := Aside0.mk hr
  have HC := Aside0.mk hc
  have HL := Aside0.mk hl
  have HU := Aside0.mk hu
  have HS8 := Aside0.mk hs
  have HSU := Aside0.mk hsu
  obtain ⟨s0, s1, s2, s3, s4, s5, s6, s7, hse⟩ := len8 hs
  have HSE := Aside0.mk hse
  have HW0 := Aside0.mk (show Words ((w.alloc (.cells #[.int .u32 s0, .int .u32 s1, .int .u32 s2, .int .u32 s3, .int .u32 s4, .int .u32 s5, .int .u32 s6, .int .u32 s7] 36)).alloc (.cells #[.int .u32 0, .int .u32 0, .int .u32 0, .int .u32 0, .int .u32 0, .int .u32 0, .int .u32 0, .int .u32 0] 36)) w.heap.size 36 s by rw [hse]; exact blk_alloc (blk_new _ _) _)
  have HW1 := Aside0.mk (show Words ((w.alloc (.cells #[.int .u32 s0, .int .u32 s1, .int .u32 s2, .int .u32 s3, .int .u32 s4, .int .u32 s5, .int .u32 s6, .int .u32 s7] 36)).alloc (.cells #[.int .u32 0, .int .u32 0, .int .u32 0, .int .u32 0, .int .u32 0, .int .u32 0, .int .u32 0, .int .u32 0] 36)) (w.heap.size + 1) 36 (List.replicate 8 0) from second_new' _ _ _)
  rw [show wordsV s = .agg #[.int .u32 s0, .int .u32 s1, .int .u32 s2, .int .u32 s3, .int .u32 s4, .int .u32 s5, .int .u32 s6, .int .u32 s7] by rw [hse]; rfl]
  clear hr hc hl hu hs hsu hse
  go_enter Try.func45, Try.ntmps45
  go_wp2_with (fail)
  obtain ⟨wa, hwa⟩ : ∃ wa, (w.alloc (.cells #[.int .u32 s0, .int .u32 s1, .int .u32 s2, .int .u32 s3, .int .u32 s4, .int .u32 s5, .int .u32 s6, .int .u32 s7] 36)).alloc (.cells #[.int .u32 0, .int .u32 0, .int .u32 0, .int .u32 0, .int .u32 0, .int .u32 0, .int .u32 0, .int .u32 0] 36) = wa := ⟨_, rfl⟩
  have HBA := Aside0.mk (show Below w.heap.size w wa by rw [← hwa]; exact below_alloc (below_alloc (Below.refl _ _) _) _)
  have HSZ := Aside0.mk (show wa.heap.size = w.heap.size + 2 by rw [← hwa]; simp)
  rw [hwa] at HW0 HW1 ⊢
  clear hwa
  refine (words_c A c b wa (Kd.C_below HR.out HBA.out) HC.out HL.out HU.out).mono ?_
  rintro e w1 ⟨rfl, hb1⟩
  go_wp2_with (fail)
  refine (keys_c w1).mono ?_
  rintro e w2 ⟨rfl, hb2⟩
  have hb := below_step hb1 hb2
  have X0 := Aside0.mk (show Words w2 w.heap.size 36 s from blk_below HW0.out hb)
  have X1 := Aside0.mk (show Words w2 (w.heap.size + 1) 36 (List.replicate 8 0) from blk_below HW1.out hb)
  have XB := Aside0.mk (below_step HBA.out hb)
  have XS := Aside0.mk (show w.heap.size + 2 ≤ w2.heap.size by have := hb.size; have := HSZ.out; omega)
  clear hb1 hb2 hb HW0 HW1 HBA HSZ
  obtain ⟨D5, hD5⟩ : ∃ D, (nums .u32 (fill b 64)).toArray = D := ⟨_, rfl⟩
  obtain ⟨D6, hD6⟩ : ∃ D, (nums .u32 keys).toArray = D := ⟨_, rfl⟩
  have HD5 := Aside0.mk hD5
  have HD6 := Aside0.mk hD6
  have h5s : D5.size = 64 := by rw [← hD5]; simp [nums, fill_len]
  have h6s : D6.size = 64 := by rw [← hD6]; rfl
  have I5 := Aside0.mk (show (Try.prog.info? 89).map (·.size) = some D5.size by rw [h5s]; exact info_64)
  have I6 := Aside0.mk (show (Try.prog.info? 89).map (·.size) = some D6.size by rw [h6s]; exact info_64)
  have S5 := Aside0.mk (show (64 : Nat) = D5.size from h5s.symm)
  have S6 := Aside0.mk (show (64 : Nat) = D6.size from h6s.symm)
  have O5 := Aside0.mk (show D5.all (·.oneCell') = true by rw [← hD5]; exact nums_one _ _)
  have O6 := Aside0.mk (show D6.all (·.oneCell') = true by rw [← hD6]; exact nums_one _ _)
  rw [show wordsV (fill b 64) = .agg D5 from by rw [← hD5], show wordsV keys = .agg D6 from by rw [← hD6]]
  clear hD5 hD6 h5s h6s
  go_wp2_with (first
    | ((with_reducible refine gate_store (t := 89) (p := 5) (v := .tmp 15) rfl ?_); go_must (refine wpList_store_row rfl 89 (.tmp 5) (.tmp 15) rfl w2.heap.size D5 rfl rfl 89 _ (by exact blk_alloc (blk_new _ _) _) I5.out (by exact S5.out) O5.out ?_); go_must (generalize hW5 : World.setRow _ _ _ = W5); have Y5 := Aside0.mk (show W5.heap[w2.heap.size]? = some (.cells D5 89 (0, 0)) by rw [← hW5]; exact setRow_heap _ _ _ _ _ _ (blk_alloc (blk_new _ _) _)); have Y6 := Aside0.mk (show ∃ Z, Z.size = 64 ∧ W5.heap[w2.heap.size + 1]? = some (.cells Z 89 (0, 0)) by rw [← hW5]; exact ⟨_, by exact rfl, row_other (second_new' _ _ _) (by omega)⟩); have Y0 := Aside0.mk (show Words W5 w.heap.size 36 s by rw [← hW5]; exact row_other (blk_alloc (blk_alloc X0.out _) _) (by have := XS.out; omega)); have Y1 := Aside0.mk (show Words W5 (w.heap.size + 1) 36 (List.replicate 8 0) by rw [← hW5]; exact row_other (blk_alloc (blk_alloc X1.out _) _) (by have := XS.out; omega)); have YB := Aside0.mk (show Below w.heap.size w W5 by rw [← hW5]; exact below_setRow (below_alloc (below_alloc XB.out _) _) (by have := XS.out; omega) _); have YS := Aside0.mk (show W5.heap.size = w2.heap.size + 2 by rw [← hW5]; simp); clear hW5)
    | ((with_reducible refine gate_store (t := 89) (p := 6) (v := .tmp 16) rfl ?_); go_must (obtain ⟨Z, hZ, hY6⟩ := Y6.out); go_must (refine wpList_store_row rfl 89 (.tmp 6) (.tmp 16) rfl (w2.heap.size + 1) D6 rfl rfl 89 Z hY6 I6.out (by rw [hZ]; exact S6.out) O6.out ?_); go_must (generalize hW6 : World.setRow _ _ _ = W6); have V5 := Aside0.mk (show W6.heap[w2.heap.size]? = some (.cells D5 89 (0, 0)) by rw [← hW6]; exact row_other Y5.out (by omega)); have V6 := Aside0.mk (show W6.heap[w2.heap.size + 1]? = some (.cells D6 89 (0, 0)) by rw [← hW6]; exact setRow_heap _ _ _ _ _ _ hY6); have V0 := Aside0.mk (show Words W6 w.heap.size 36 s by rw [← hW6]; exact row_other Y0.out (by have := XS.out; omega)); have V1 := Aside0.mk (show Words W6 (w.heap.size + 1) 36 (List.replicate 8 0) by rw [← hW6]; exact row_other Y1.out (by have := XS.out; omega)); have VB := Aside0.mk (show Below w.heap.size w W6 by rw [← hW6]; exact below_setRow YB.out (by have := XS.out; omega) _); have VS := Aside0.mk (show W6.heap.size = w2.heap.size + 2 by rw [← hW6, size_setRow]; exact YS.out); clear hW6 hY6 hZ; have hv0 := V0.out; rw [HSE.out] at hv0; have z0 : W6.cell? ⟨w.heap.size, 0, none⟩ = some (.int .u32 s0) := hv0.cell 0 (by simp); have z1 : W6.cell? ⟨w.heap.size, 1, none⟩ = some (.int .u32 s1) := hv0.cell 1 (by simp); have z2 : W6.cell? ⟨w.heap.size, 2, none⟩ = some (.int .u32 s2) := hv0.cell 2 (by simp); have z3 : W6.cell? ⟨w.heap.size, 3, none⟩ = some (.int .u32 s3) := hv0.cell 3 (by simp); have z4 : W6.cell? ⟨w.heap.size, 4, none⟩ = some (.int .u32 s4) := hv0.cell 4 (by simp); have z5 : W6.cell? ⟨w.heap.size, 5, none⟩ = some (.int .u32 s5) := hv0.cell 5 (by simp); have z6 : W6.cell? ⟨w.heap.size, 6, none⟩ = some (.int .u32 s6) := hv0.cell 6 (by simp); have z7 : W6.cell? ⟨w.heap.size, 7, none⟩ = some (.int .u32 s7) := hv0.cell 7 (by simp); clear hv0))
  obtain ⟨q, hq⟩ : ∃ q, w2.heap.size = q := ⟨_, rfl⟩
  obtain ⟨p, hp⟩ : ∃ p, W6.heap.size = p := ⟨_, rfl⟩
  have H0 := Aside0.mk (show KInv w q p s (fill b 64) (rounds s (fill b 64) 0) (W6.alloc (.cells #[.int .u32 s0, .int .u32 s1, .int .u32 s2, .int .u32 s3, .int .u32 s4, .int .u32 s5, .int .u32 s6, .int .u32 s7] 36)) by
    have h5 := V5.out
    have h6 := V6.out
    rw [← HD5.out, hq] at h5
    rw [← HD6.out, hq] at h6
    refine ⟨blk_alloc V0.out _, blk_alloc V1.out _, blk_alloc h5 _, blk_alloc h6 _, ?_, by have := XS.out; omega, by have := VS.out; omega, below_alloc VB.out _⟩
    rw [show rounds s (fill b 64) 0 = s from rfl, HSE.out, ← hp]
    exact blk_new _ _)
  rw [hq, hp]
  clear z0 z1 z2 z3 z4 z5 z6 z7 V0 V1 V5 V6 VB VS Y0 Y1 Y5 Y6 YB YS X0 X1 XB XS I5 I6 S5 S6 O5 O6 hq hp
  obtain ⟨ws, hwse⟩ : ∃ ws, fill b 64 = ws := ⟨_, rfl⟩
  have HWE := Aside0.mk hwse
  rw [hwse] at H0
  clear hwse
  go_loopw [8, 9, 10, 11, 12] (fun i _ _ _ _ wr => ∃ k : Nat, k ≤ 64 ∧ i = .int .i64 k ∧ KInv w q p s ws (rounds s ws k) wr) (fun i _ _ _ _ _ => 64 - (intOf i).toNat)
  case atStart => exact ⟨0, by omega, rfl, H0.out⟩
  case round =>
    clear H0
    obtain ⟨k, hk, rfl, hinv⟩ := hrel
    have hU := (rounds_u32 HSU.out ws k).at
    obtain ⟨v0, v1, v2, v3, v4, v5, v6, v7, hv⟩ := len8 (rounds_len HS8.out ws k)
    have HV := Aside0.mk hv
    rw [hv] at hU
    have hinv' := hinv
    rw [hv] at hinv'
    have HI2 := Aside0.mk hinv'
    have hw := hinv'.2.2.2.2.1.cell
    have c0 : wr.cell? ⟨p, 0, none⟩ = some (.int .u32 v0) := hw 0 (by simp)
    have c1 : wr.cell? ⟨p, 1, none⟩ = some (.int .u32 v1) := hw 1 (by simp)
    have c2 : wr.cell? ⟨p, 2, none⟩ = some (.int .u32 v2) := hw 2 (by simp)
    have c3 : wr.cell? ⟨p, 3, none⟩ = some (.int .u32 v3) := hw 3 (by simp)
    have c4 : wr.cell? ⟨p, 4, none⟩ = some (.int .u32 v4) := hw 4 (by simp)
    have c5 : wr.cell? ⟨p, 5, none⟩ = some (.int .u32 v5) := hw 5 (by simp)
    have c6 : wr.cell? ⟨p, 6, none⟩ = some (.int .u32 v6) := hw 6 (by simp)
    have c7 : wr.cell? ⟨p, 7, none⟩ = some (.int .u32 v7) := hw 7 (by simp)
    have HR0 := Aside0.mk (show 0 ≤ v0 ∧ v0 ≤ 4294967295 from hU 0)
    have HR4 := Aside0.mk (show 0 ≤ v4 ∧ v4 ≤ 4294967295 from hU 4)
    by_cases hlt : k < 64
    · obtain ⟨kk, hkk⟩ : ∃ x, keys.getD k 0 = x := ⟨_, rfl⟩
      obtain ⟨xx, hxx⟩ : ∃ x, ws.getD k 0 = x := ⟨_, rfl⟩
      have ck : wr.cell? ⟨q + 1, k, none⟩ = some (.int .u32 kk) := by
        rw [← hkk]
        exact hinv.2.2.2.1.cell k (by show k < 64; omega)
      have cx : wr.cell? ⟨q, k, none⟩ = some (.int .u32 xx) := by
        rw [← hxx]
        exact hinv.2.2.1.cell k (by rw [← HWE.out, fill_len]; omega)
      have HKX := Aside0.mk (And.intro hkk hxx)
      have g4 : (0 : Int) ≤ (k : Int) := by omega
      have f4 : (k : Int) < 64 := by omega
      clear hv hU hinv hinv' hw hkk hxx
      go_wp2
      go_quiet (fail)
      have d0 : (wr.drewN nq).cell? ⟨p, 0, none⟩ = some (.int .u32 v0) := c0
      have d1 : (wr.drewN nq).cell? ⟨p, 1, none⟩ = some (.int .u32 v1) := c1
      have d2 : (wr.drewN nq).cell? ⟨p, 2, none⟩ = some (.int .u32 v2) := c2
      have d3 : (wr.drewN nq).cell? ⟨p, 3, none⟩ = some (.int .u32 v3) := c3
      have d4 : (wr.drewN nq).cell? ⟨p, 4, none⟩ = some (.int .u32 v4) := c4
      have d5 : (wr.drewN nq).cell? ⟨p, 5, none⟩ = some (.int .u32 v5) := c5
      have d6 : (wr.drewN nq).cell? ⟨p, 6, none⟩ = some (.int .u32 v6) := c6
      have d7 : (wr.drewN nq).cell? ⟨p, 7, none⟩ = some (.int .u32 v7) := c7
      have dk : (wr.drewN nq).cell? ⟨q + 1, k, none⟩ = some (.int .u32 kk) := ck
      have dx : (wr.drewN nq).cell? ⟨q, k, none⟩ = some (.int .u32 xx) := cx
      have HI3 := Aside0.mk (HI2.out.drewN nq)
      clear c0 c1 c2 c3 c4 c5 c6 c7 ck cx HI2
      revert d0 d1 d2 d3 d4 d5 d6 d7 dk dx HI3
      generalize wr.drewN nq = wq
      intro d0 d1 d2 d3 d4 d5 d6 d7 dk dx HI3
      have rq6 := fun m => turnq_6 v4 wq m HR4.out
      have rq11 := fun m => turnq_11 v4 wq m HR4.out
      have rq25 := fun m => turnq_25 v4 wq m HR4.out
      go_wp2_with (fail)
      go_quiet ((first | (with_reducible exact rq6 _) | (with_reducible exact rq11 _) | (with_reducible exact rq25 _)))
      have c0 : (wq.drewN nq).cell? ⟨p, 0, none⟩ = some (.int .u32 v0) := d0
      have c1 : (wq.drewN nq).cell? ⟨p, 1, none⟩ = some (.int .u32 v1) := d1
      have c2 : (wq.drewN nq).cell? ⟨p, 2, none⟩ = some (.int .u32 v2) := d2
      have c3 : (wq.drewN nq).cell? ⟨p, 3, none⟩ = some (.int .u32 v3) := d3
      have c4 : (wq.drewN nq).cell? ⟨p, 4, none⟩ = some (.int .u32 v4) := d4
      have c5 : (wq.drewN nq).cell? ⟨p, 5, none⟩ = some (.int .u32 v5) := d5
      have c6 : (wq.drewN nq).cell? ⟨p, 6, none⟩ = some (.int .u32 v6) := d6
      have HI4 := Aside0.mk (HI3.out.drewN nq)
      clear d0 d1 d2 d3 d4 d5 d6 d7 dk dx HI3 rq6 rq11 rq25
      revert c0 c1 c2 c3 c4 c5 c6 HI4
      generalize wq.drewN nq = w3
      intro c0 c1 c2 c3 c4 c5 c6 HI4
      have rq2 := fun m => turnq_2 v0 w3 m HR0.out
      have rq13 := fun m => turnq_13 v0 w3 m HR0.out
      have rq22 := fun m => turnq_22 v0 w3 m HR0.out
      go_wp2_with (fail)
      go_quiet ((first | (with_reducible exact rq2 _) | (with_reducible exact rq13 _) | (with_reducible exact rq22 _)))
      have d0 : (w3.drewN nq).cell? ⟨p, 0, none⟩ = some (.int .u32 v0) := c0
      have d1 : (w3.drewN nq).cell? ⟨p, 1, none⟩ = some (.int .u32 v1) := c1
      have d2 : (w3.drewN nq).cell? ⟨p, 2, none⟩ = some (.int .u32 v2) := c2
      have d3 : (w3.drewN nq).cell? ⟨p, 3, none⟩ = some (.int .u32 v3) := c3
      have d4 : (w3.drewN nq).cell? ⟨p, 4, none⟩ = some (.int .u32 v4) := c4
      have d5 : (w3.drewN nq).cell? ⟨p, 5, none⟩ = some (.int .u32 v5) := c5
      have d6 : (w3.drewN nq).cell? ⟨p, 6, none⟩ = some (.int .u32 v6) := c6
      have HI5 := Aside0.mk (HI4.out.drewN nq)
      clear c0 c1 c2 c3 c4 c5 c6 HI4 rq2 rq13 rq22
      revert d0 d1 d2 d3 d4 d5 d6 HI5
      generalize w3.drewN nq = w4
      intro d0 d1 d2 d3 d4 d5 d6 HI5
      go_wp2_with ((with_reducible refine gate_store (t := 36) (p := 7) (v := .tmp 99) rfl ?_); go_must (refine wpList_store_row rfl 36 (.tmp 7) (.tmp 99) rfl p _ rfl rfl 36 _ HI5.out.2.2.2.2.1 (by exact info_8) (by rfl) (by exact nums_one .u32 [_, v0, v1, v2, _, v4, v5, v6]) ?_))
      go_roundw
      case rel =>
        refine ⟨k + 1, by omega, by go_num, HI5.out.next ?_⟩
        rw [show rounds s ws (k + 1) = ShaPlain.step (rounds s ws k) (keys.getD k 0) (ws.getD k 0) from rfl, HV.out, HKX.out.1, HKX.out.2]
        show [m32 (one _ kk xx + two _), v0, v1, v2, m32 (v3 + one _ kk xx), v4, v5, v6] = _
        simp only [List.cons.injEq, true_and, and_true]
        constructor
        · show m32 (m32 (v7 + sigE v4 + choice v4 v5 v6 + kk + xx) + m32 (sigA v0 + most v0 v1 v2)) = _
          unfold m32 sigE sigA choice most xo an
          omega
        · show m32 (v3 + m32 (v7 + sigE v4 + choice v4 v5 v6 + kk + xx)) = _
          unfold m32 sigE choice xo an
          omega
      case measure => simp [intOf]; omega
    · have HKE := Aside0.mk (show k = 64 by omega)
      have hge : 64 ≤ k := by omega
      have hdk : decide ((k : Int) < 64) = false := decide_eq_false (by omega)
      obtain ⟨v, hve⟩ : ∃ v, rounds s ws k = v := ⟨_, rfl⟩
      have HVE := Aside0.mk hve
      have HVL := Aside0.mk (show v.length = 8 by rw [← hve]; exact rounds_len HS8.out ws k)
      have HA := Aside0.mk (show KInv w q p (addN s v 0) ws v wr by rw [← hve]; exact hinv)
      clear hv hU hinv hinv' hw hlt hk hve c0 c1 c2 c3 c4 c5 c6 c7 HI2 HR0 HR4
      go_wp2
      clear hge hdk
      go_loopw [13] (fun i wx => ∃ j : Nat, j ≤ 8 ∧ i = .int .i64 j ∧ KInv w q p (addN s v j) ws v wx) (fun i _ => 8 - (intOf i).toNat)
      case atStart => exact ⟨0, by omega, rfl, HA.out⟩
      case round =>
        clear HA
        obtain ⟨j, hj, rfl, hinv⟩ := hrel
        have HA := Aside0.mk hinv
        by_cases hlt : j < 8
        · obtain ⟨x, hx⟩ : ∃ x, s.getD j 0 = x := ⟨_, rfl⟩
          obtain ⟨y, hy⟩ : ∃ y, v.getD j 0 = y := ⟨_, rfl⟩
          have HXY := Aside0.mk (And.intro hx hy)
          have cs := hinv.1.cell j (by rw [addN_len, HS8.out]; exact hlt)
          rw [addN_get s v j j (Nat.le_refl _), hx] at cs
          have cv := hinv.2.2.2.2.1.cell j (by rw [HVL.out]; exact hlt)
          rw [hy] at cv
          have hf : wr.drew.frozen? ⟨w.heap.size, j, none⟩ = false := hinv.1.free j
          have hd : wr.drew.cell? ⟨w.heap.size, j, none⟩ = some (.int .u32 x) := cs
          have j0 : (0 : Int) ≤ (j : Int) := by omega
          have j1 : (j : Int) < 8 := by omega
          clear hx hy hinv
          go_wp2
          go_still_tail 9, (by kernel_rfl)
          change wpList _ _ _ _ _ wr.drew
          have HA2 := Aside0.mk (show KInv w q p (addN s v j) ws v wr.drew from HA.out.drewN 1)
          clear HA cs cv
          obtain ⟨w2', hw2⟩ : ∃ w2', wr.drew = w2' := ⟨_, rfl⟩
          rw [hw2] at hf hd HA2 ⊢
          clear hw2
          go_wp2
          go_roundw
          case rel =>
            refine ⟨j + 1, by omega, by go_num, ?_⟩
            rw [addN, HXY.out.1, HXY.out.2]
            exact HA2.out.set_s j _
          case measure => simp [intOf]; omega
        · have HJ := Aside0.mk (show j = 8 by omega)
          have hge : 8 ≤ j := by omega
          obtain ⟨D, hD⟩ : ∃ D, (nums .u32 (addN s v j)).toArray = D := ⟨_, rfl⟩
          have h2 := hinv.1
          unfold Words at h2
          rw [hD] at h2
          have H2 := Aside0.mk h2
          have H4 := Aside0.mk hinv.2.1
          have HB := Aside0.mk hinv.2.2.2.2.2.2.2
          have hds : D.size = 8 := by rw [← hD]; simp [nums, addN_len, HS8.out]
          have HZS := Aside0.mk (show (nums .u32 (List.replicate 8 0)).toArray.size = D.size by rw [hds]; simp [nums])
          have HIF := Aside0.mk (show (Try.prog.info? 36).map (·.size) = some D.size by rw [hds]; exact info_8)
          have HONE := Aside0.mk (show D.all (·.oneCell') = true by rw [← hD]; exact nums_one _ _)
          have HFIN := Aside0.mk (show D = (nums .u32 (press s b)).toArray by
            rw [← hD, HJ.out, addN_all HS8.out HVL.out, ← HVE.out, HKE.out, press, HWE.out])
          clear hD hds h2 hinv hlt hj HA
          go_wp2_with (first
            | ((with_reducible refine gate_dst (N := 113) rfl ?_); refine wpList_load_row rfl 36 (.tmp 2) rfl w.heap.size rfl 36 D (0, 0) _ H2.out Try.underlying36 rfl HIF.out ?_)
            | ((with_reducible refine gate_store (t := 36) (p := 4) (v := .tmp 113) rfl ?_); refine wpList_store_row rfl 36 (.tmp 4) (.tmp 113) rfl (w.heap.size + 1) D rfl rfl 36 _ H4.out HIF.out HZS.out HONE.out ?_))
          have HSR := setRow_heap wr (w.heap.size + 1) _ D _ _ H4.out
          refine bodyPost_ret (v := .agg D) (results_cell_row rfl _ _ (w.heap.size + 1) 36 D (0, 0) _ rfl HSR Try.underlying36 rfl HIF.out) rfl ⟨by rw [HFIN.out], below_setRow HB.out (by omega) D⟩
end Go.Proofs.Ytbebkogkeepfoaa.Sha
