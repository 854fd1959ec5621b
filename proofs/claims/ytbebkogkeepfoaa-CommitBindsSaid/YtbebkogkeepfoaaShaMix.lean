import Derived.Test.YtbebkogkeepfoaaShaSpread
import Derived.Deep.QuietTactic
import Derived.BigQuiet
import Derived.Laws.CopyOwn
/- A block is taken in: sha's mix walked. -/
namespace Go.Proofs.Ytbebkogkeepfoaa.Sha
set_option linter.unusedVariables false
open Go.RowKit Go.Proofs.Ytbebkogkeepfoaa.Base Go.Proofs.Ytbebkogkeepfoaa.ShaPlain Go.Proofs.YtbebkogkeepfoaaW.PrintWords Go.Proofs.YtbebkogkeepfoaaW.PrintLast Go.Proofs.YtbebkogkeepfoaaW.PrintMore
/-- The cells of a Hash. -/
def hashC (made : Bool) (s r : List Int) (n : Int) : List Value := .bool made :: (nums .u32 s ++ (nums .u8 r ++ [.int .u64 n]))
/-- A Hash at block g. -/
def Hsh (w0 w : World) (g : Nat) (made : Bool) (s r : List Int) (n : Int) : Prop :=
  w0.heap.size ≤ g ∧ w.heap[g]? = some (.cells (hashC made s r n).toArray 40 (0, 0)) ∧ s.length = 8 ∧ r.length = 64 ∧ U32 s ∧ (∀ x ∈ r, 0 ≤ x ∧ x ≤ 255)
theorem hashC_state {made : Bool} {s r : List Int} {n : Int} (i : Nat) (hi : i < s.length) : (hashC made s r n)[1 + i]? = some (.int .u32 (s.getD i 0)) := by
  unfold hashC
  rw [Nat.add_comm, List.getElem?_cons_succ, List.getElem?_append_left (by simpa [nums] using hi)]
  simp [nums, List.getElem?_eq_getElem hi, List.getD_eq_getElem?_getD]
theorem hashC_rest {made : Bool} {s r : List Int} {n : Int} (hs : s.length = 8) (i : Nat) (hi : i < r.length) : (hashC made s r n)[9 + i]? = some (.int .u8 (r.getD i 0)) := by
  unfold hashC
  rw [show 9 + i = (8 + i) + 1 from by omega, List.getElem?_cons_succ, List.getElem?_append_right (by simp [nums, hs]), List.getElem?_append_left (by simp [nums, hs]; omega)]
  simp [nums, hs, List.getElem?_eq_getElem hi, List.getD_eq_getElem?_getD]
theorem hashC_n {made : Bool} {s r : List Int} {n : Int} (hs : s.length = 8) (hr : r.length = 64) : (hashC made s r n)[73]? = some (.int .u64 n) := by
  unfold hashC
  rw [List.getElem?_cons_succ, List.getElem?_append_right (by simp [nums, hs]), List.getElem?_append_right (by simp [nums, hs, hr])]
  simp [nums, hs, hr]
theorem hashC_len {made : Bool} {s r : List Int} {n : Int} (hs : s.length = 8) (hr : r.length = 64) : (hashC made s r n).length = 74 := by
  simp [hashC, nums, hs, hr]
theorem hashC_set_state {made : Bool} {s r : List Int} {n : Int} (i : Nat) (x : Int) (hi : i < s.length) : (hashC made s r n).set (1 + i) (.int .u32 x) = hashC made (s.set i x) r n := by
  unfold hashC
  rw [Nat.add_comm, List.set_cons_succ, List.set_append_left _ _ (by simpa [nums] using hi)]
  simp [nums]
theorem hashC_set_rest {made : Bool} {s r : List Int} {n : Int} (hs : s.length = 8) (i : Nat) (x : Int) (hi : i < r.length) : (hashC made s r n).set (9 + i) (.int .u8 x) = hashC made s (r.set i x) n := by
  unfold hashC
  rw [show 9 + i = (8 + i) + 1 from by omega, List.set_cons_succ, List.set_append_right _ _ (by simp [nums, hs]), List.set_append_left _ _ (by simp [nums, hs]; omega)]
  simp [nums, hs]
theorem hashC_set_n {made : Bool} {s r : List Int} {n : Int} (hs : s.length = 8) (hr : r.length = 64) (x : Int) : (hashC made s r n).set 73 (.int .u64 x) = hashC made s r x := by
  unfold hashC
  rw [List.set_cons_succ, List.set_append_right _ _ (by simp [nums, hs]), List.set_append_right _ _ (by simp [nums, hs, hr])]
  simp [nums, hs, hr]
theorem toArray_set (l : List Value) (i : Nat) (v : Value) : l.toArray.setIfInBounds i v = (l.set i v).toArray := by simp
namespace Hsh
variable {w0 w : World} {g : Nat} {made : Bool} {s r : List Int} {n : Int}
theorem cell (h : Hsh w0 w g made s r n) (j : Nat) : w.cell? ⟨g, j, none⟩ = (hashC made s r n)[j]? := by
  rw [blk_cell h.2.1 j]
  simp
theorem made_ (h : Hsh w0 w g made s r n) : w.cell? ⟨g, 0, none⟩ = some (.bool made) := h.cell 0
theorem state (h : Hsh w0 w g made s r n) (i : Nat) (hi : i < 8) : w.cell? ⟨g, 1 + i, none⟩ = some (.int .u32 (s.getD i 0)) := by
  rw [h.cell, hashC_state i (by rw [h.2.2.1]; omega)]
theorem rest (h : Hsh w0 w g made s r n) : Blk w g 9 r := fun j hj => by
  rw [h.cell, hashC_rest h.2.2.1 j (by rw [h.2.2.2.1]; omega)]
theorem n_ (h : Hsh w0 w g made s r n) : w.cell? ⟨g, 73, none⟩ = some (.int .u64 n) := by
  rw [h.cell, hashC_n h.2.2.1 h.2.2.2.1]
theorem free (h : Hsh w0 w g made s r n) (j : Nat) : w.frozen? ⟨g, j, none⟩ = false := blk_frozen h.2.1 j
theorem lt (h : Hsh w0 w g made s r n) : g < w.heap.size := blk_lt h.2.1
theorem below {w1 : World} (h : Hsh w0 w g made s r n) (hb : Below w.heap.size w w1) : Hsh w0 w1 g made s r n := ⟨h.1, (hb.block g (blk_lt h.2.1)).trans h.2.1, h.2.2⟩
theorem keep {w1 : World} {g' : Nat} (h : Hsh w0 w g made s r n) (hk : KeepBut w w1 g' none) (hne : g ≠ g') : Hsh w0 w1 g made s r n := ⟨h.1, hk.blk h.2.1 hne (by simp), h.2.2⟩
theorem set_state (h : Hsh w0 w g made s r n) (i : Nat) (x : Int) (hi : i < 8) (hx : 0 ≤ x ∧ x ≤ 4294967295) : Hsh w0 (w.setCell ⟨g, 1 + i, none⟩ (.int .u32 x)) g made (s.set i x) r n := by
  refine ⟨h.1, ?_, by rw [List.length_set]; exact h.2.2.1, h.2.2.2.1, h.2.2.2.2.1.set i hx, h.2.2.2.2.2⟩
  rw [blk_set h.2.1, toArray_set, hashC_set_state i x (by rw [h.2.2.1]; omega)]
theorem set_rest (h : Hsh w0 w g made s r n) (i : Nat) (x : Int) (hi : i < 64) (hx : 0 ≤ x ∧ x ≤ 255) : Hsh w0 (w.setCell ⟨g, 9 + i, none⟩ (.int .u8 x)) g made s (r.set i x) n := by
  refine ⟨h.1, ?_, h.2.2.1, by rw [List.length_set]; exact h.2.2.2.1, h.2.2.2.2.1, fun y hy => (List.mem_or_eq_of_mem_set hy).elim (h.2.2.2.2.2 y) (fun e => e ▸ hx)⟩
  rw [blk_set h.2.1, toArray_set, hashC_set_rest h.2.2.1 i x (by rw [h.2.2.2.1]; omega)]
theorem set_n (h : Hsh w0 w g made s r n) (x : Int) : Hsh w0 (w.setCell ⟨g, 73, none⟩ (.int .u64 x)) g made s r x := by
  refine ⟨h.1, ?_, h.2.2⟩
  rw [blk_set h.2.1, toArray_set, hashC_set_n h.2.2.1 h.2.2.2.1 x]
theorem byte (h : Hsh w0 w g made s r n) (j : Nat) : 0 ≤ r.getD j 0 ∧ r.getD j 0 ≤ 255 := by
  rw [List.getD_eq_getElem?_getD]
  by_cases hi : j < r.length
  · rw [List.getElem?_eq_getElem hi]; exact h.2.2.2.2.2 _ (List.getElem_mem hi)
  · rw [List.getElem?_eq_none (by omega)]; simp
end Hsh
theorem len8 {l : List Int} (h : l.length = 8) : ∃ a b c d e f g i, l = [a, b, c, d, e, f, g, i] := by
  match l, h with
  | [a, b, c, d, e, f, g, i], _ => exact ⟨a, b, c, d, e, f, g, i, rfl⟩
/-- The eight words under way, in a block of their own. -/
def MixInv (w1 : World) (v : List Int) (wr : World) : Prop := Words wr w1.heap.size 36 v ∧ Below w1.heap.size w1 wr
theorem MixInv.drewN {w1 wr : World} {v : List Int} (h : MixInv w1 v wr) (m : Nat) : MixInv w1 v (wr.drewN m) := ⟨h.1, pw_below_drewN h.2 m⟩
theorem MixInv.set {w1 wr : World} {v : List Int} (h : MixInv w1 v wr) (i : Nat) (x : Int) : MixInv w1 (v.set i x) (wr.setCell ⟨w1.heap.size, i, none⟩ (.int .u32 x)) := ⟨h.1.set i x, below_set h.2 (Nat.le_refl _)⟩
theorem info_u32 : (Try.prog.info? 35).map (·.size) = some 1 := by kernel_rfl
theorem MixInv.next {w1 w3 : World} {s ws : List Int} {k : Nat} {v0 v1 v2 v3 v4 v5 v6 X Y : Int} (h : MixInv w1 [v0, v0, v1, v2, v3, v4, v5, v6] w3) (hr : rounds s ws (k + 1) = [X, v0, v1, v2, Y, v4, v5, v6]) :
    MixInv w1 (rounds s ws (k + 1)) ((w3.setCell ⟨w1.heap.size, 0, none⟩ (.int .u32 X)).setCell ⟨w1.heap.size, 4, none⟩ (.int .u32 Y)) := by
  rw [hr]
  exact (h.set 0 X).set 4 Y
/-- The Hash under way, its first words added to. -/
def AddInv (w0 w : World) (g : Nat) (s v r : List Int) (n : Int) (j : Nat) (wx : World) : Prop :=
  Hsh w0 wx g true (List.zipWith (fun x y => m32 (x + y)) (s.take j) v ++ s.drop j) r n ∧ Below w0.heap.size w0 wx ∧ KeepBut w wx g none
theorem AddInv.next {w0 w wx : World} {g : Nat} {s v r : List Int} {n : Int} {j : Nat} (h : AddInv w0 w g s v r n j wx) (hj : j < 8) (hs : s.length = 8) (hv : v.length = 8) {X : Int} (hX : X = (s.getD j 0 + v.getD j 0) % 4294967296) :
    AddInv w0 w g s v r n (j + 1) (wx.drew.setCell ⟨g, 1 + j, none⟩ (.int .u32 X)) := by
  subst hX
  have h1 := Hsh.set_state (w := wx.drew) (w0 := w0) (g := g) (made := true) (r := r) (n := n) (s := List.zipWith (fun x y => m32 (x + y)) (s.take j) v ++ s.drop j) h.1 j ((s.getD j 0 + v.getD j 0) % 4294967296) hj (by omega)
  refine ⟨?_, below_set (below_drew1 h.2.1) h.1.1, (keep_drew h.2.2).set_ _ _⟩
  have e : (List.zipWith (fun x y => m32 (x + y)) (s.take j) v ++ s.drop j).set j ((s.getD j 0 + v.getD j 0) % 4294967296) = List.zipWith (fun x y => m32 (x + y)) (s.take (j + 1)) v ++ s.drop (j + 1) := by
    obtain ⟨s0, s1, s2, s3, s4, s5, s6, s7, rfl⟩ := len8 hs
    obtain ⟨v0, v1, v2, v3, v4, v5, v6, v7, rfl⟩ := len8 hv
    have : j = 0 ∨ j = 1 ∨ j = 2 ∨ j = 3 ∨ j = 4 ∨ j = 5 ∨ j = 6 ∨ j = 7 := by omega
    rcases this with rfl | rfl | rfl | rfl | rfl | rfl | rfl | rfl <;> rfl
  rw [e] at h1
  exact h1
theorem AddInv.cell {w0 w wx : World} {g : Nat} {s v r : List Int} {n : Int} {j : Nat} (h : AddInv w0 w g s v r n j wx) (hj : j < 8) (hs : s.length = 8) (hv : v.length = 8) : wx.cell? ⟨g, 1 + j, none⟩ = some (.int .u32 (s.getD j 0)) := by
  rw [h.1.state j hj]
  congr 2
  obtain ⟨s0, s1, s2, s3, s4, s5, s6, s7, rfl⟩ := len8 hs
  obtain ⟨v0, v1, v2, v3, v4, v5, v6, v7, rfl⟩ := len8 hv
  have : j = 0 ∨ j = 1 ∨ j = 2 ∨ j = 3 ∨ j = 4 ∨ j = 5 ∨ j = 6 ∨ j = 7 := by omega
  rcases this with rfl | rfl | rfl | rfl | rfl | rfl | rfl | rfl <;> rfl
set_option maxHeartbeats 8000000 in
set_option maxRecDepth 100000 in
theorem mix_c (w0 w : World) (g kb : Nat) (s r : List Int) (n : Int) (h : Hsh w0 w g true s r n) (hB : Below w0.heap.size w0 w) (hk : Words w kb 89 keys) (hne : kb ≠ g) :
    Calls Try.prog 47 #[.pointer (some ⟨g, 0, none⟩), .pointer (some ⟨kb, 0, none⟩)] w fun e w' => e = .returned (.tuple #[]) ∧ Hsh w0 w' g true (press s r) r n ∧ Below w0.heap.size w0 w' ∧ KeepBut w w' g none := by
  obtain ⟨s0, s1, s2, s3, s4, s5, s6, s7, hs⟩ := len8 h.2.2.1
  have HS := Aside0.mk hs
  have HI := Aside0.mk h
  have HB := Aside0.mk hB
  have HK := Aside0.mk hk
  have HNE := Aside0.mk hne
  clear h hB hk hne hs
  go_enter Try.func47, Try.ntmps47
  go_wp2_with (fail)
  refine (spread_c g 9 r w HI.out.rest (fun j _ => HI.out.byte j)).mono ?_
  rintro e w1 ⟨p, rfl, hp, hws, hb⟩
  obtain ⟨ws, hwse⟩ : ∃ ws, fill r 64 = ws := ⟨_, rfl⟩
  rw [hwse] at hws
  have HWE := Aside0.mk hwse
  have HP := Aside0.mk hp
  have HW := Aside0.mk hws
  have HI1 := Aside0.mk (HI.out.below hb)
  have HB1 := Aside0.mk hb
  have HK1 := Aside0.mk (show Words w1 kb 89 keys from (hb.block kb HK.out.lt).trans HK.out)
  have hst := HI1.out.state
  rw [HS.out] at hst
  have z0 : w1.cell? ⟨g, 1, none⟩ = some (.int .u32 s0) := hst 0 (by omega)
  have z1 : w1.cell? ⟨g, 2, none⟩ = some (.int .u32 s1) := hst 1 (by omega)
  have z2 : w1.cell? ⟨g, 3, none⟩ = some (.int .u32 s2) := hst 2 (by omega)
  have z3 : w1.cell? ⟨g, 4, none⟩ = some (.int .u32 s3) := hst 3 (by omega)
  have z4 : w1.cell? ⟨g, 5, none⟩ = some (.int .u32 s4) := hst 4 (by omega)
  have z5 : w1.cell? ⟨g, 6, none⟩ = some (.int .u32 s5) := hst 5 (by omega)
  have z6 : w1.cell? ⟨g, 7, none⟩ = some (.int .u32 s6) := hst 6 (by omega)
  have z7 : w1.cell? ⟨g, 8, none⟩ = some (.int .u32 s7) := hst 7 (by omega)
  clear hst hwse hp hws hb
  have H0 := Aside0.mk (show MixInv w1 (rounds s ws 0) (w1.alloc (.cells #[.int .u32 s0, .int .u32 s1, .int .u32 s2, .int .u32 s3, .int .u32 s4, .int .u32 s5, .int .u32 s6, .int .u32 s7] 36)) by
    refine ⟨?_, below_alloc (Below.refl _ _) _⟩
    rw [show rounds s ws 0 = s from rfl, HS.out]
    exact blk_new _ _)
  have HLS := Aside0.mk (show s.length = 8 from HI.out.2.2.1)
  have HUS := Aside0.mk (show U32 s from HI.out.2.2.2.2.1)
  go_wp2
  clear z0 z1 z2 z3 z4 z5 z6 z7
  go_loopw [6, 7, 8, 9, 10, 11, 12, 23] (fun _ _ _ _ _ _ _ i wr => ∃ k : Nat, k ≤ 64 ∧ i = .int .i64 k ∧ MixInv w1 (rounds s ws k) wr) (fun _ _ _ _ _ _ _ i _ => 64 - (intOf i).toNat)
  case atStart => exact ⟨0, by omega, rfl, H0.out⟩
  case round =>
    obtain ⟨k, hk, rfl, hinv⟩ := hrel
    have hU := (rounds_u32 HUS.out ws k).at
    obtain ⟨v0, v1, v2, v3, v4, v5, v6, v7, hv⟩ := len8 (rounds_len HLS.out ws k)
    have HV := Aside0.mk hv
    rw [hv] at hU
    have hinv' := hinv
    rw [hv] at hinv'
    have HI2 := Aside0.mk hinv'
    have hw := hinv'.1.cell
    have c0 : wr.cell? ⟨w1.heap.size, 0, none⟩ = some (.int .u32 v0) := hw 0 (by simp)
    have c1 : wr.cell? ⟨w1.heap.size, 1, none⟩ = some (.int .u32 v1) := hw 1 (by simp)
    have c2 : wr.cell? ⟨w1.heap.size, 2, none⟩ = some (.int .u32 v2) := hw 2 (by simp)
    have c4 : wr.cell? ⟨w1.heap.size, 4, none⟩ = some (.int .u32 v4) := hw 4 (by simp)
    have c5 : wr.cell? ⟨w1.heap.size, 5, none⟩ = some (.int .u32 v5) := hw 5 (by simp)
    have c6 : wr.cell? ⟨w1.heap.size, 6, none⟩ = some (.int .u32 v6) := hw 6 (by simp)
    have c7 : wr.cell? ⟨w1.heap.size, 7, none⟩ = some (.int .u32 v7) := hw 7 (by simp)
    have HR0 := Aside0.mk (show 0 ≤ v0 ∧ v0 ≤ 4294967295 from hU 0)
    have HR4 := Aside0.mk (show 0 ≤ v4 ∧ v4 ≤ 4294967295 from hU 4)
    by_cases hlt : k < 64
    · obtain ⟨kk, hkk⟩ : ∃ x, keys.getD k 0 = x := ⟨_, rfl⟩
      obtain ⟨xx, hxx⟩ : ∃ x, ws.getD k 0 = x := ⟨_, rfl⟩
      have ck : wr.cell? ⟨kb, k, none⟩ = some (.int .u32 kk) := by
        rw [← hkk]
        have := HK1.out.cell k (by show k < 64; omega)
        exact (hinv.2.cell (World.block_lt_of_cell? _ _ this)).trans this
      have cx : wr.cell? ⟨p, k, none⟩ = some (.int .u32 xx) := by
        rw [← hxx]
        have := HW.out.cell k (by rw [← HWE.out, fill_len]; omega)
        exact (hinv.2.cell (World.block_lt_of_cell? _ _ this)).trans this
      have HKX := Aside0.mk (And.intro hkk hxx)
      have g4 : (0 : Int) ≤ (k : Int) := by omega
      have f4 : (k : Int) < 64 := by omega
      clear hv hU hinv hinv' hw hkk hxx
      go_wp2
      go_quiet (fail)
      have d0 : (wr.drewN nq).cell? ⟨w1.heap.size, 0, none⟩ = some (.int .u32 v0) := c0
      have d1 : (wr.drewN nq).cell? ⟨w1.heap.size, 1, none⟩ = some (.int .u32 v1) := c1
      have d2 : (wr.drewN nq).cell? ⟨w1.heap.size, 2, none⟩ = some (.int .u32 v2) := c2
      have d5 : (wr.drewN nq).cell? ⟨w1.heap.size, 5, none⟩ = some (.int .u32 v5) := c5
      have d6 : (wr.drewN nq).cell? ⟨w1.heap.size, 6, none⟩ = some (.int .u32 v6) := c6
      have d7 : (wr.drewN nq).cell? ⟨w1.heap.size, 7, none⟩ = some (.int .u32 v7) := c7
      have dk : (wr.drewN nq).cell? ⟨kb, k, none⟩ = some (.int .u32 kk) := ck
      have dx : (wr.drewN nq).cell? ⟨p, k, none⟩ = some (.int .u32 xx) := cx
      have HI3 := Aside0.mk (HI2.out.drewN nq)
      clear c0 c1 c2 c4 c5 c6 c7 ck cx HI2
      revert d0 d1 d2 d5 d6 d7 dk dx HI3
      generalize wr.drewN nq = wq
      intro d0 d1 d2 d5 d6 d7 dk dx HI3
      have rq6 := fun m => rightq_6 v4 wq m HR4.out
      have rq11 := fun m => rightq_11 v4 wq m HR4.out
      have rq25 := fun m => rightq_25 v4 wq m HR4.out
      go_wp2_with (fail)
      go_quiet ((first | (with_reducible exact rq6 _) | (with_reducible exact rq11 _) | (with_reducible exact rq25 _)))
      have HI4 := Aside0.mk (HI3.out.drewN nq)
      clear d0 d1 d2 d5 d6 d7 dk dx HI3 rq6 rq11 rq25
      revert HI4
      generalize wq.drewN nq = w2
      intro HI4
      go_wp2_with (fail)
      refine (right_2 v0 _ HR0.out.1 HR0.out.2).mono ?_
      rintro e w' ⟨rfl, rfl⟩
      go_wp2_with (fail)
      refine (right_13 v0 _ HR0.out.1 HR0.out.2).mono ?_
      rintro e w' ⟨rfl, rfl⟩
      go_wp2_with (fail)
      refine (right_22 v0 _ HR0.out.1 HR0.out.2).mono ?_
      rintro e w' ⟨rfl, rfl⟩
      go_wp2_with (fail)
      go_still_tail 2, (by kernel_rfl)
      change wpList _ _ _ _ _ w2.drew
      refine wpList_copy_splice rfl (.tmp 90) (.tmp 91) 96 96 rfl 35 Try.underlying96 info_u32 (some ⟨w1.heap.size, 1, none⟩) (some ⟨w1.heap.size, 0, none⟩) 7 7 7 8 rfl rfl w1.heap.size 1 (nums .u32 [v0, v1, v2, v3, v4, v5, v6, v7]) 36 HI4.out.1 (nums .u32 [v0, v1, v2, v3, v4, v5, v6]) rfl (fun _ => ⟨rfl, _, rfl, fun j v hv => ?hsrc⟩) (by simp [nums]) (fun v hv => ?hone) w1.heap.size w1 (below_drew1 HI4.out.2) (Nat.le_refl _) ?_
      case hsrc =>
        have hj : j < 7 := (List.getElem?_eq_some_iff.1 hv).1
        rw [add_plain]
        have := HI4.out.1.cell j (by show j < 8; omega)
        refine (show w2.drew.cell? _ = _ from this).trans ?_
        rw [← hv]
        match j, hj with
        | 0, _ => rfl
        | 1, _ => rfl
        | 2, _ => rfl
        | 3, _ => rfl
        | 4, _ => rfl
        | 5, _ => rfl
        | 6, _ => rfl
      case hone =>
        obtain ⟨x, _, rfl⟩ := List.mem_map.1 hv
        rfl
      intro w3 hg3 hb3
      have HI5 := Aside0.mk (show MixInv w1 [v0, v0, v1, v2, v3, v4, v5, v6] w3 from ⟨hg3, hb3⟩)
      have c0 : w3.cell? ⟨w1.heap.size, 0, none⟩ = some (.int .u32 v0) := HI5.out.1.cell 0 (by simp)
      have c4 : w3.cell? ⟨w1.heap.size, 4, none⟩ = some (.int .u32 v3) := HI5.out.1.cell 4 (by simp)
      have f0 := HI5.out.1.free 0
      have f4' := HI5.out.1.free 4
      clear hg3 hb3 HI4
      go_wp2
      go_roundw
      case rel =>
        refine ⟨k + 1, by omega, by go_num, HI5.out.next ?_⟩
        rw [show rounds s ws (k + 1) = ShaPlain.step (rounds s ws k) (keys.getD k 0) (ws.getD k 0) from rfl, HV.out, HKX.out.1, HKX.out.2]
        show [m32 (one _ kk xx + two _), v0, v1, v2, m32 (v3 + one _ kk xx), v4, v5, v6] = _
        simp only [List.cons.injEq, true_and, and_true]
        constructor
        · show m32 (m32 (v7 + sigE v4 + choice v4 v5 v6 + kk + xx) + m32 (sigA v0 + most v0 v1 v2)) = _
          unfold m32 sigE sigA choice most xo an
          omega
        · show m32 (v3 + m32 (v7 + sigE v4 + choice v4 v5 v6 + kk + xx)) = _
          unfold m32 sigE choice xo an
          omega
      case measure => simp [intOf]; omega
    · have HKE := Aside0.mk (show k = 64 by omega)
      have hge : 64 ≤ k := by omega
      have c3 : wr.cell? ⟨w1.heap.size, 3, none⟩ = some (.int .u32 v3) := hw 3 (by simp)
      have hb2 := below_step HB1.out (HB1.out.mono (Nat.le_refl _) |> fun _ => hinv.2)
      have HA := Aside0.mk (show AddInv w0 w g s (rounds s ws 64) r n 0 wr from by
        refine ⟨?_, below_step HB.out hb2, KeepBut.of_below hb2 g none⟩
        rw [List.take_zero, List.zipWith_nil_left, List.nil_append, List.drop_zero]
        exact HI1.out.below hinv.2)
      have HVV := Aside0.mk (show rounds s ws 64 = [v0, v1, v2, v3, v4, v5, v6, v7] by have h := HV.out; rwa [HKE.out] at h)
      clear hv hU hinv hinv' hw hlt hk hb2
      have hdk : decide ((k : Int) < 64) = false := decide_eq_false (by omega)
      go_wp2
      clear hge hdk c0 c1 c2 c3 c4 c5 c6 c7
      go_loopw [13, 14, 104] (fun _ _ i wx => ∃ j : Nat, j ≤ 8 ∧ i = .int .i64 j ∧ AddInv w0 w g s (rounds s ws 64) r n j wx) (fun _ _ i _ => 8 - (intOf i).toNat)
      case atStart => exact ⟨0, by omega, rfl, HA.out⟩
      case round =>
        clear HA
        obtain ⟨j, hj, rfl, hinv⟩ := hrel
        have HA := Aside0.mk hinv
        by_cases hlt : j < 8
        · have hc := hinv.cell hlt HLS.out (rounds_len HLS.out ws 64)
          have hf : wr.drew.frozen? ⟨g, 1 + j, none⟩ = false := hinv.1.free (1 + j)
          have hd : wr.drew.cell? ⟨g, 1 + j, none⟩ = some (.int .u32 (s.getD j 0)) := hc
          have hN := fun X => hinv.next (X := X) hlt HLS.out (rounds_len HLS.out ws 64)
          have HN := Aside0.mk hN
          clear hN hinv
          have h8 : j = 0 ∨ j = 1 ∨ j = 2 ∨ j = 3 ∨ j = 4 ∨ j = 5 ∨ j = 6 ∨ j = 7 := by omega
          clear hj hlt HA
          rw [HS.out] at hc hd
          rcases h8 with rfl | rfl | rfl | rfl | rfl | rfl | rfl | rfl
          · dsimp only [List.getD_cons_zero, List.getD_cons_succ, Nat.reduceAdd] at hc hd hf
            have ij : ∀ w, (Instr.index 36 (.agg #[.int .u32 v0, .int .u32 v1, .int .u32 v2, .int .u32 v3, .int .u32 v4, .int .u32 v5, .int .u32 v6, .int .u32 v7]) (.int .i64 0)).run Try.prog w = .ok (.int .u32 v0) w := fun _ => by kernel_rfl
            go_wp2
            go_still_tail 11, (by kernel_rfl)
            change wpList _ _ _ _ _ wr.drew
            obtain ⟨w2, hw2⟩ : ∃ w2, wr.drew = w2 := ⟨_, rfl⟩
            have HW2 := Aside0.mk hw2
            rw [hw2] at hf hd ⊢
            clear hw2
            go_wp2
            go_roundw
            case rel =>
              refine ⟨1, by omega, rfl, ?_⟩
              rw [← HW2.out]
              exact HN.out _ (by rw [HVV.out, HS.out]; rfl)
            case measure => simp [intOf]
          · dsimp only [List.getD_cons_zero, List.getD_cons_succ, Nat.reduceAdd] at hc hd hf
            have ij : ∀ w, (Instr.index 36 (.agg #[.int .u32 v0, .int .u32 v1, .int .u32 v2, .int .u32 v3, .int .u32 v4, .int .u32 v5, .int .u32 v6, .int .u32 v7]) (.int .i64 1)).run Try.prog w = .ok (.int .u32 v1) w := fun _ => by kernel_rfl
            go_wp2
            go_still_tail 11, (by kernel_rfl)
            change wpList _ _ _ _ _ wr.drew
            obtain ⟨w2, hw2⟩ : ∃ w2, wr.drew = w2 := ⟨_, rfl⟩
            have HW2 := Aside0.mk hw2
            rw [hw2] at hf hd ⊢
            clear hw2
            go_wp2
            go_roundw
            case rel =>
              refine ⟨2, by omega, rfl, ?_⟩
              rw [← HW2.out]
              exact HN.out _ (by rw [HVV.out, HS.out]; rfl)
            case measure => simp [intOf]
          · dsimp only [List.getD_cons_zero, List.getD_cons_succ, Nat.reduceAdd] at hc hd hf
            have ij : ∀ w, (Instr.index 36 (.agg #[.int .u32 v0, .int .u32 v1, .int .u32 v2, .int .u32 v3, .int .u32 v4, .int .u32 v5, .int .u32 v6, .int .u32 v7]) (.int .i64 2)).run Try.prog w = .ok (.int .u32 v2) w := fun _ => by kernel_rfl
            go_wp2
            go_still_tail 11, (by kernel_rfl)
            change wpList _ _ _ _ _ wr.drew
            obtain ⟨w2, hw2⟩ : ∃ w2, wr.drew = w2 := ⟨_, rfl⟩
            have HW2 := Aside0.mk hw2
            rw [hw2] at hf hd ⊢
            clear hw2
            go_wp2
            go_roundw
            case rel =>
              refine ⟨3, by omega, rfl, ?_⟩
              rw [← HW2.out]
              exact HN.out _ (by rw [HVV.out, HS.out]; rfl)
            case measure => simp [intOf]
          · dsimp only [List.getD_cons_zero, List.getD_cons_succ, Nat.reduceAdd] at hc hd hf
            have ij : ∀ w, (Instr.index 36 (.agg #[.int .u32 v0, .int .u32 v1, .int .u32 v2, .int .u32 v3, .int .u32 v4, .int .u32 v5, .int .u32 v6, .int .u32 v7]) (.int .i64 3)).run Try.prog w = .ok (.int .u32 v3) w := fun _ => by kernel_rfl
            go_wp2
            go_still_tail 11, (by kernel_rfl)
            change wpList _ _ _ _ _ wr.drew
            obtain ⟨w2, hw2⟩ : ∃ w2, wr.drew = w2 := ⟨_, rfl⟩
            have HW2 := Aside0.mk hw2
            rw [hw2] at hf hd ⊢
            clear hw2
            go_wp2
            go_roundw
            case rel =>
              refine ⟨4, by omega, rfl, ?_⟩
              rw [← HW2.out]
              exact HN.out _ (by rw [HVV.out, HS.out]; rfl)
            case measure => simp [intOf]
          · dsimp only [List.getD_cons_zero, List.getD_cons_succ, Nat.reduceAdd] at hc hd hf
            have ij : ∀ w, (Instr.index 36 (.agg #[.int .u32 v0, .int .u32 v1, .int .u32 v2, .int .u32 v3, .int .u32 v4, .int .u32 v5, .int .u32 v6, .int .u32 v7]) (.int .i64 4)).run Try.prog w = .ok (.int .u32 v4) w := fun _ => by kernel_rfl
            go_wp2
            go_still_tail 11, (by kernel_rfl)
            change wpList _ _ _ _ _ wr.drew
            obtain ⟨w2, hw2⟩ : ∃ w2, wr.drew = w2 := ⟨_, rfl⟩
            have HW2 := Aside0.mk hw2
            rw [hw2] at hf hd ⊢
            clear hw2
            go_wp2
            go_roundw
            case rel =>
              refine ⟨5, by omega, rfl, ?_⟩
              rw [← HW2.out]
              exact HN.out _ (by rw [HVV.out, HS.out]; rfl)
            case measure => simp [intOf]
          · dsimp only [List.getD_cons_zero, List.getD_cons_succ, Nat.reduceAdd] at hc hd hf
            have ij : ∀ w, (Instr.index 36 (.agg #[.int .u32 v0, .int .u32 v1, .int .u32 v2, .int .u32 v3, .int .u32 v4, .int .u32 v5, .int .u32 v6, .int .u32 v7]) (.int .i64 5)).run Try.prog w = .ok (.int .u32 v5) w := fun _ => by kernel_rfl
            go_wp2
            go_still_tail 11, (by kernel_rfl)
            change wpList _ _ _ _ _ wr.drew
            obtain ⟨w2, hw2⟩ : ∃ w2, wr.drew = w2 := ⟨_, rfl⟩
            have HW2 := Aside0.mk hw2
            rw [hw2] at hf hd ⊢
            clear hw2
            go_wp2
            go_roundw
            case rel =>
              refine ⟨6, by omega, rfl, ?_⟩
              rw [← HW2.out]
              exact HN.out _ (by rw [HVV.out, HS.out]; rfl)
            case measure => simp [intOf]
          · dsimp only [List.getD_cons_zero, List.getD_cons_succ, Nat.reduceAdd] at hc hd hf
            have ij : ∀ w, (Instr.index 36 (.agg #[.int .u32 v0, .int .u32 v1, .int .u32 v2, .int .u32 v3, .int .u32 v4, .int .u32 v5, .int .u32 v6, .int .u32 v7]) (.int .i64 6)).run Try.prog w = .ok (.int .u32 v6) w := fun _ => by kernel_rfl
            go_wp2
            go_still_tail 11, (by kernel_rfl)
            change wpList _ _ _ _ _ wr.drew
            obtain ⟨w2, hw2⟩ : ∃ w2, wr.drew = w2 := ⟨_, rfl⟩
            have HW2 := Aside0.mk hw2
            rw [hw2] at hf hd ⊢
            clear hw2
            go_wp2
            go_roundw
            case rel =>
              refine ⟨7, by omega, rfl, ?_⟩
              rw [← HW2.out]
              exact HN.out _ (by rw [HVV.out, HS.out]; rfl)
            case measure => simp [intOf]
          · dsimp only [List.getD_cons_zero, List.getD_cons_succ, Nat.reduceAdd] at hc hd hf
            have ij : ∀ w, (Instr.index 36 (.agg #[.int .u32 v0, .int .u32 v1, .int .u32 v2, .int .u32 v3, .int .u32 v4, .int .u32 v5, .int .u32 v6, .int .u32 v7]) (.int .i64 7)).run Try.prog w = .ok (.int .u32 v7) w := fun _ => by kernel_rfl
            go_wp2
            go_still_tail 11, (by kernel_rfl)
            change wpList _ _ _ _ _ wr.drew
            obtain ⟨w2, hw2⟩ : ∃ w2, wr.drew = w2 := ⟨_, rfl⟩
            have HW2 := Aside0.mk hw2
            rw [hw2] at hf hd ⊢
            clear hw2
            go_wp2
            go_roundw
            case rel =>
              refine ⟨8, by omega, rfl, ?_⟩
              rw [← HW2.out]
              exact HN.out _ (by rw [HVV.out, HS.out]; rfl)
            case measure => simp [intOf]
        · have hj8 := Aside0.mk (show j = 8 by omega)
          have hge : 8 ≤ j := by omega
          clear hinv hlt hj
          go_wp2
          go_end0
          have h := HA.out
          rw [hj8.out] at h
          refine ⟨rfl, ?_, h.2⟩
          have h1 := h.1
          rw [List.take_of_length_le (by rw [HLS.out]; omega), List.drop_of_length_le (by rw [HLS.out]; omega), List.append_nil, ← HWE.out] at h1
          exact h1
end Go.Proofs.Ytbebkogkeepfoaa.Sha
