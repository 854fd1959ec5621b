/- Own and printed texts, laid together. -/
import Derived.Test.YtobljmgoengofaaPlGC
/- plan.Whole: what it hands back. -/
namespace Go.Proofs.Ytobljmgoengofaa.Whole
set_option linter.unusedVariables false
set_option linter.unusedSimpArgs false
open Go.RowKit Go.Proofs.Ytobljmgoengofaa.Base Go.Proofs.Ytobljmgoengofaa.Chunk Go.Proofs.Ytobljmgoengofaa.Cut Go.Proofs.Ytobljmgoengofaa.PagePlain Go.Proofs.Ytobljmgoengofaa.Fence0 Go.Proofs.YtobljmgoengofaaW.PrintWords Go.Proofs.YtobljmgoengofaaW.PrintLast Go.Proofs.YtobljmgoengofaaW.PrintMore
attribute [local go_sem] Oper.semAt_some

/-- What the pages ps have behind their tags. -/
def flat (b : List Int) (ps : List (Fin (nch b.length))) : List Int := (ps.map (fun x : Fin (nch b.length) => (piece b x).tail)).flatten
theorem flat_all (b : List Int) : flat b (List.finRange (nch b.length)) = strip b := by
  unfold flat strip
  congr 1
  apply List.ext_getElem
  · simp
  · intro i h1 h2
    simp
theorem flat_snoc (b : List Int) (ps : List (Fin (nch b.length))) (x : Fin (nch b.length)) : flat b (ps ++ [x]) = flat b ps ++ (piece b x).tail := by
  unfold flat
  rw [List.map_append, List.flatten_append]
  simp
def I (w : World) (B n1 : Nat) (b : List Int) (ps : List (Fin (nch b.length))) (W : World) : Prop :=
  ∃ v, W.heap[B + 1 + 1]? = some (.cells #[v] 22 (0, 0)) ∧ (Kd.int .u8).R 5 W B (fun k => n1 ≤ k) v (flat b ps) ∧ (∀ x ∈ ps, good (piece b x) = true) ∧ W.heap[B]? = some (.cells #[.slice none 0 0] 22 (0, 0)) ∧ W.heap[B + 1]? = some (.cells #[.bool false] 4 (0, 0)) ∧ Below B w W ∧ n1 ≤ W.heap.size
theorem I_own {w : World} {B n1 : Nat} {b : List Int} (hB : B ≤ w.heap.size) (hw : w.heap.size ≤ n1) : OwnFrom n1 (I w B n1 b) := by
  rintro s W W1 row ⟨v, h1, h2, h3, h4, h5, h6, h7⟩ hg hr
  have hr2 := fun r e => (hr r e).2
  exact ⟨v, blk_own h1 hg hr2, R_own' h2 hg hr2, h3, blk_own h4 hg hr2, blk_own h5 hg hr2, h6.grown hg (Nat.le_trans hB h6.size) (fun k e => Nat.le_trans (Nat.le_trans hB hw) (hr k e).1), Nat.le_trans h7 hg.size⟩
def Ix (w : World) (B : Nat) (b : List Int) (c : Code) (ps : List (Fin (nch b.length))) (W : World) : Prop :=
  c = .ret ∧ (∃ x ∈ ps, good (piece b x) = false) ∧ W.heap[B]? = some (.cells #[.slice none 0 0] 22 (0, 0)) ∧ W.heap[B + 1]? = some (.cells #[.bool false] 4 (0, 0)) ∧ Below B w W
theorem Ix_own {w : World} {B n1 : Nat} {b : List Int} (c : Code) (hB : B ≤ w.heap.size) (hw : w.heap.size ≤ n1) : OwnFrom n1 (Ix w B b c) := by
  rintro s W W1 row ⟨h1, h2, h3, h4, h5⟩ hg hr
  have hr2 := fun r e => (hr r e).2
  exact ⟨h1, h2, blk_own h3 hg hr2, blk_own h4 hg hr2, h5.grown hg (Nat.le_trans hB h5.size) (fun k e => Nat.le_trans (Nat.le_trans hB hw) (hr k e).1)⟩
/-- The first byte of a piece. -/
theorem piece_head {W : World} {A : Option Addr} {b : List Int} (h : Rb W A b) (k : Nat) (hk : k < nch b.length) :
    ∃ (a : Addr) (y : Int) (t : List Int), A = some a ∧ piece b k = y :: t ∧ W.cell? (a.add (256 * k)) = some (.int .u8 y) ∧ 0 < plen b.length k := by
  have hp : 0 < plen b.length k := by unfold plen nch at *; omega
  have hr := piece_reads h k
  have hl := piece_len b k
  cases hP : piece b k with
  | nil => rw [hP] at hl; simp at hl; omega
  | cons y t =>
    have h2 : Rb W (A.map (fun a => a.add (256 * k))) (y :: t) := by
      show Kd.C _ W _ (y :: t).length (y :: t)
      rw [← hP, hl]
      exact hr
    obtain ⟨ad, e, hc⟩ := Rb.at0 h2
    obtain ⟨a, rfl, rfl⟩ := Option.map_eq_some_iff.1 e
    exact ⟨a, y, t, rfl, rfl, hc, hp⟩

theorem tail_reads {W : World} {p : Addr} {m : Nat} {y : Int} {t : List Int} (h : Kd.C (Kd.int .u8) W (some p) m (y :: t)) : Kd.C (Kd.int .u8) W (some (p.add 1)) (m - 1) t := by
  have h' := Kd.reads_of_C (d := (0 : Int)) h
  have hl : t.length + 1 = m := h'.1
  refine Kd.C_of_reads (d := (0 : Int)) ⟨by omega, by have := h'.2.1; omega, fun h0 => ?_⟩
  obtain ⟨ad, e, hc⟩ := h'.2.2 (by omega)
  cases e
  refine ⟨_, rfl, fun j hj => ?_⟩
  rw [Addr.add_add, show 1 + j = j + 1 by omega, hc (j + 1) (by omega)]
  rfl
theorem flat_bd (b : List Int) (ps : List (Fin (nch b.length))) : (flat b ps).length ≤ 256 * ps.length := by
  induction ps with
  | nil => exact Nat.zero_le _
  | cons x ps ih =>
    have e : flat b (x :: ps) = (piece b x).tail ++ flat b ps := by simp [flat]
    have h2 := piece_len b x
    have h3 : plen b.length x ≤ 256 := by unfold plen; omega
    rw [e, List.length_append, List.length_tail, List.length_cons]
    omega
theorem flat_len (b : List Int) (ps : List (Fin (nch b.length))) (h : ps.length < nch b.length) (hl : b.length ≤ 100000) {x m : Nat} (_ : plen b.length x = m) : (flat b ps).length + 256 ≤ 140737488355328 := by
  have := flat_bd b ps
  have h2 : nch b.length ≤ 391 := by unfold nch; omega
  omega
theorem blk_drew {W W3 : World} {g t : Nat} {v : Value} (h : W.heap[g]? = some (.cells #[v] t (0, 0))) (h3 : W.drew.grownBy W3 v.ownBlock) (_ : ∀ k, v.ownBlock = some k → k < W.heap.size) (hne : some g ≠ v.ownBlock) : W3.heap[g]? = some (.cells #[v] t (0, 0)) :=
  (h3.block g (blk_lt h) hne).trans h
theorem good_done {w W W3 : World} {n1 : Nat} {b : List Int} {ps : List (Fin (nch b.length))} {x : Fin (nch b.length)} {v v3 : Value} {y : Int} {t : List Int} (hn : w.heap.size + 1 + 1 < n1) (hro : (Kd.int .u8).R 5 W w.heap.size (fun k => n1 ≤ k) v (flat b ps)) (hgd : ∀ x ∈ ps, good (piece b x) = true)
    (hb0 : W.heap[w.heap.size]? = some (.cells #[.slice none 0 0] 22 (0, 0))) (hb1 : W.heap[w.heap.size + 1]? = some (.cells #[.bool false] 4 (0, 0))) (hnw : n1 ≤ W.heap.size) (hgx : good (piece b x) = true) (hg : W.drew.grownBy W3 v.ownBlock) (hP : piece b x = y :: t)
    (ho3 : (Kd.int .u8).R 5 W3 w.heap.size (fun k => n1 ≤ k) v3 (flat b ps ++ t)) (hb3 : Below w.heap.size w W3) (hk3 : W3.heap[w.heap.size + 1 + 1]? = some (.cells #[v] 22 (0, 0))) :
    KeepsFrom n1 W (W3.setCell ⟨w.heap.size + 1 + 1, 0, none⟩ v3) ∧ KpB n1 (w.heap.size + 1 + 1) W (W3.setCell ⟨w.heap.size + 1 + 1, 0, none⟩ v3) ∧ I w w.heap.size n1 b (ps ++ [x]) (W3.setCell ⟨w.heap.size + 1 + 1, 0, none⟩ v3) := by
  have hne : ∀ k, k < n1 → some k ≠ v.ownBlock := fun k hk e => by have := hro.1 k e.symm; omega
  have hs3 : W.heap.size ≤ W3.heap.size := hg.size
  have k0 : KeepsOthers W W.drew := ⟨Nat.le_refl _, fun _ _ h _ => h⟩
  have k3 : KeepsOthers W.drew W3 := KeepsOthers.of_grownBy hg (fun j o e ho => by
    obtain ⟨cells, hc⟩ := Kd.R_typed hro j e
    have ho' : W.heap[j]? = some o := ho
    rw [hc] at ho'
    cases ho'
    rfl)
  have hset : ∀ k, k ≠ w.heap.size + 1 + 1 → (W3.setCell ⟨w.heap.size + 1 + 1, 0, none⟩ v3).heap[k]? = W3.heap[k]? := fun k hk => Below.heap_setCell W3 ⟨w.heap.size + 1 + 1, 0, none⟩ v3 k hk
  have hold : ∀ k, k < n1 → W3.heap[k]? = W.heap[k]? := fun k hk => hg.block k (show k < W.heap.size by omega) (hne k hk)
  refine ⟨((k0.trans k3).trans (KeepsOthers.setCell _ _ _)).from n1, fun k hk hk2 => (hset k hk2).trans (hold k hk), v3, by simpa using blk_set hk3 0 v3, ?_, fun z hz => ?_, ?_, ?_, below_set hb3 (by omega), ?_⟩
  · rw [flat_snoc, hP, List.tail_cons]
    exact Kd.R_far (p := ⟨w.heap.size + 1 + 1, 0, none⟩) ho3 (fun k hk e => by dsimp only at e; omega) v3
  · rcases List.mem_append.1 hz with h | h
    · exact hgd z h
    · simp at h; subst h; exact hgx
  · rw [hset _ (by omega), hold _ (by omega)]; exact hb0
  · rw [hset _ (by omega), hold _ (by omega)]; exact hb1
  · have := (KeepsOthers.setCell W3 ⟨w.heap.size + 1 + 1, 0, none⟩ v3).size
    omega
theorem ret_done {w W : World} {n1 : Nat} {b : List Int} {ps : List (Fin (nch b.length))} {x : Fin (nch b.length)} (hI : I w w.heap.size n1 b ps W) (hg : good (piece b x) = false) :
    KeepsFrom n1 W ((W.setCell ⟨w.heap.size, 0, none⟩ (.slice none 0 0)).setCell ⟨w.heap.size + 1, 0, none⟩ (.bool false)) ∧ Ix w w.heap.size b .ret (ps ++ [x]) ((W.setCell ⟨w.heap.size, 0, none⟩ (.slice none 0 0)).setCell ⟨w.heap.size + 1, 0, none⟩ (.bool false)) := by
  obtain ⟨v, ho, hro, hgd, hb0, hb1, hbw, hnw⟩ := hI
  refine ⟨((KeepsOthers.setCell _ _ _).trans (KeepsOthers.setCell _ _ _)).from _, rfl, ⟨x, by simp, hg⟩, ?_, ?_, below_set (below_set hbw (Nat.le_refl _)) (Nat.le_succ _)⟩
  · rw [Below.heap_setCell _ ⟨w.heap.size + 1, 0, none⟩ _ _ (by simp)]
    simpa using blk_set hb0 0 (.slice none 0 0)
  · have h : (W.setCell ⟨w.heap.size, 0, none⟩ (.slice none 0 0)).heap[w.heap.size + 1]? = some (.cells #[.bool false] 4 (0, 0)) := by
      rw [Below.heap_setCell _ ⟨w.heap.size, 0, none⟩ _ _ (by simp)]
      exact hb1
    simpa using blk_set h 0 (.bool false)

set_option maxHeartbeats 2000000 in
set_option maxRecDepth 100000 in
theorem whole_ (A : Option Addr) (c : Nat) (b : List Int) (w : World) (hr : Rb w A b) (hc : b.length ≤ c) (hl : b.length ≤ 100000) :
    CallsIn Fence.wide 6 Try.prog 15 #[.slice A b.length c] w fun e w' => ∃ v, e = .returned (.tuple #[v, .bool (wholeS b).2]) ∧ Ob w' w.heap.size v (wholeS b).1 ∧ Below w.heap.size w w' := by
  have HR := Aside0.mk hr
  have HC := Aside0.mk hc
  have HL := Aside0.mk hl
  have hA : 0 < b.length → ∃ a, A = some a := fun h0 => (Kd.C_get hr 0 0 (by omega) (by omega)).elim fun a h => ⟨a, h.choose_spec.1⟩
  have HA := Aside0.mk hA
  clear hr hc hl hA
  refine callsIn_of_wp_marks Try.func15 rfl trivial ?_ rfl
  simp only [Try.ntmps15, List.size_toArray, List.length_cons, List.length_nil, Nat.reduceAdd, Nat.reduceSub, Array.replicate_succ, Array.replicate_zero, List.push_toArray, List.append_toArray, List.nil_append, List.cons_append]
  gi_wp2
  refine ⟨trivial, (chunk_in 5 _ _ _ _).mono ?_⟩
  rintro e w' ⟨rfl, rfl⟩
  gi_wp2
  obtain ⟨w1, hw1⟩ : ∃ w1, ((((w.alloc (.cells #[.slice none 0 0] 22)).alloc (.cells #[.bool false] 4)).alloc (.cells #[.slice none 0 0] 22)).alloc (.cells #[.slice A b.length c] 22)).alloc (.cells #[.int .i64 256] 3) = w1 := ⟨_, rfl⟩
  have hsz : w1.heap.size = w.heap.size + 5 := by rw [← hw1]; simp
  have hB : Below w.heap.size w w1 := by rw [← hw1]; exact below_alloc (below_alloc (below_alloc (below_alloc (below_alloc (Below.refl _ _) _) _) _) _) _
  have b0 : Boxed w1 w.heap.size 22 (.slice none 0 0) := by
    rw [← hw1]
    exact ((((Boxed.new w _ _).alloc _).alloc _).alloc _).alloc _
  have b1 : Boxed w1 (w.heap.size + 1) 4 (.bool false) := by
    have h := Boxed.new (w.alloc (.cells #[.slice none 0 0] 22)) 4 (.bool false)
    rw [World.size_alloc] at h
    rw [← hw1]
    exact ((h.alloc _).alloc _).alloc _
  have b2 : Boxed w1 (w.heap.size + 1 + 1) 22 (.slice none 0 0) := by
    have h := Boxed.new ((w.alloc (.cells #[.slice none 0 0] 22)).alloc (.cells #[.bool false] 4)) 22 (.slice none 0 0)
    rw [World.size_alloc, World.size_alloc] at h
    rw [← hw1]
    exact (h.alloc _).alloc _
  have bs : w1.cell? ⟨w.heap.size + 1 + 1 + 1, 0, none⟩ = some (.slice A b.length c) := by
    have h := Boxed.new (((w.alloc (.cells #[.slice none 0 0] 22)).alloc (.cells #[.bool false] 4)).alloc (.cells #[.slice none 0 0] 22)) 22 (.slice A b.length c)
    rw [World.size_alloc, World.size_alloc, World.size_alloc] at h
    rw [← hw1]
    exact (h.alloc _).cell
  have bn : w1.cell? ⟨w.heap.size + 1 + 1 + 1 + 1, 0, none⟩ = some (.int .i64 256) := by
    have h := Boxed.new ((((w.alloc (.cells #[.slice none 0 0] 22)).alloc (.cells #[.bool false] 4)).alloc (.cells #[.slice none 0 0] 22)).alloc (.cells #[.slice A b.length c] 22)) 3 (.int .i64 256)
    rw [World.size_alloc, World.size_alloc, World.size_alloc, World.size_alloc] at h
    rw [← hw1]
    exact h.cell
  rw [hw1]
  have h0 : I w w.heap.size w1.heap.size b [] w1 := ⟨_, b2, Kd.R_nil _ _ _ _ _, (fun x hx => by cases hx), b0, b1, hB, Nat.le_refl _⟩
  clear hw1 b0 b1 b2
  refine wpIn_rangeFunc_ownG (F := Fence.wide) rfl (by omega) (gf := 78) (lb := #[.pointer (some ⟨w.heap.size + 1 + 1 + 1, 0, none⟩), .pointer (some ⟨w.heap.size + 1 + 1 + 1 + 1, 0, none⟩)]) rfl trivial (enters_of Try.func78 (by kernel_rfl) rfl)
    (chunk_stops 5 (w.heap.size + 1 + 1 + 1) (w.heap.size + 1 + 1 + 1 + 1) w1.heap.size (w.heap.size + 1 + 1) A b.length c HC.out (by have := HL.out; omega) HA.out (by omega) (by omega) (by omega) (by omega) w1 (Nat.le_refl _) bs bn) (fun h k => KpB.trans h k) KpB.put (Below.refl _ _) (fun _ => rfl)
    (I w w.heap.size w1.heap.size b) (Ix w w.heap.size b) (I_own (Nat.le_refl _) (by omega)) (fun c => Ix_own c (Nat.le_refl _) (by omega)) h0
    (fun x => { tmps := #[.slice A b.length c, undef, .pointer (some ⟨w.heap.size, 0, none⟩), .pointer (some ⟨w.heap.size + 1, 0, none⟩), .pointer (some ⟨w.heap.size + 1 + 1, 0, none⟩), .slice (A.map (fun a => a.add (256 * x))) (plen b.length x) (plen b.length x), .slice A b.length c, .func (.func 78) #[] #[.pointer (some ⟨w.heap.size + 1 + 1 + 1, 0, none⟩), .pointer (some ⟨w.heap.size + 1 + 1 + 1 + 1, 0, none⟩)], .slice (A.map (fun a => a.add (256 * x))) (plen b.length x) (plen b.length x), undef, undef, undef, undef, undef, undef, undef, undef, undef, undef, undef, undef, undef, undef], defers := [] }) ?assign ?body ?done ?stop
  case assign =>
    intro l x W K hK
    gi_wp2
    exact hK
  case body =>
    rintro l ps x W ⟨v, ho, hro, hgd, hb0, hb1, hbw, hnw⟩ hlen
    obtain ⟨a, y, t, rfl, hP, hy, hp⟩ := piece_head (Kd.C_below HR.out hbw) x x.2
    have hpl : (y :: t).length = plen b.length x := by rw [← hP, piece_len]
    have HP := Aside0.mk hP
    have HT := Aside0.mk (piece_reads (Kd.C_below HR.out hbw) x)
    rw [hP, Option.map_some] at HT
    have hm1 : plen b.length x ≤ 256 := by unfold plen; omega
    have hgx : good (piece b x) = (decide (y = 240) && decide ((y :: t).length ≠ 1)) := by rw [hP]; unfold good; simp
    rw [hpl] at hgx
    have HG := Aside0.mk hgx
    have HI := Aside0.mk (show I w w.heap.size w1.heap.size b ps W from ⟨v, ho, hro, hgd, hb0, hb1, hbw, hnw⟩)
    have HPL := Aside0.mk hpl
    generalize hx : (x : Nat) = xn at hy HP HT HG HPL hm1 hp ⊢
    generalize hm : plen b.length xn = m at HT HG HPL hm1 hp ⊢
    dsimp only [Option.map_some]
    have HX := Aside0.mk hx
    have HM := Aside0.mk hm
    have hbo : W.cell? ⟨w.heap.size + 1 + 1, 0, none⟩ = some v := (blk_cell ho 0).trans rfl
    have hfo := blk_frozen ho 0
    have hc0 : W.cell? ⟨w.heap.size, 0, none⟩ = some (.slice none 0 0) := (blk_cell hb0 0).trans rfl
    have hf0 := blk_frozen hb0 0
    have hc1 : W.cell? ⟨w.heap.size + 1, 0, none⟩ = some (.bool false) := (blk_cell hb1 0).trans rfl
    have hf1 := blk_frozen hb1 0
    have HBO := Aside0.mk ho
    have HRO := Aside0.mk hro
    have HBW := Aside0.mk hbw
    have HN1 := Aside0.mk hnw
    have HFL := Aside0.mk (flat_len b ps hlen HL.out hm)
    clear hP hpl hgx hx hm ho hro hgd hb0 hb1 hbw hnw h0 bs bn hlen
    by_cases h240 : y = 240
    · have e1 : (y == 240) = true := by simpa using h240
      have e2 : (y != 240) = false := by simpa using h240
      by_cases hm0 : m = 1
      · have e3 : ((m : Int) == 1) = true := by rw [hm0]; rfl
        have HF := Aside0.mk (show good (piece b x) = false by rw [HX.out, HG.out, decide_eq_false (p := m ≠ 1) (fun h => h hm0), Bool.and_false])
        clear h240 hm0
        gi_wp2
        exact ret_done HI.out HF.out
      · have e3 : ((m : Int) == 1) = false := by
          rw [beq_eq_false_iff_ne]
          omega
        have HF := Aside0.mk (show good (piece b x) = true by rw [HX.out, HG.out, decide_eq_true h240, decide_eq_true hm0]; rfl)
        have hm2 : (1 : Int) ≤ (m : Int) := by omega
        have hm3 : ¬ m = 1 := hm0
        clear h240 hm0
        gi_wp2
        refine region_in (by kernel_rfl) (by kernel_rfl) (fun a w h => h) ?_
        refine wpAny_take (i := 1) (v := .slice (some (a.add (256 * xn))) m m) rfl (by kernel_rfl) (by kernel_rfl) (by kernel_rfl) (fun _ _ _ h => h) (Or.inl ⟨by rfl, fun w => ?_⟩) ?_
        · go_simp
        simp only [Act.put, List.setIfInBounds_toArray, List.set_cons_zero, List.set_cons_succ]
        refine wpAny_take (i := 2) (v := .slice (some ((a.add (256 * xn)).add 1)) (m - 1) (m - 1)) rfl (by kernel_rfl) (by kernel_rfl) (by kernel_rfl) (fun _ _ _ h => h) (Or.inl ⟨by rfl, fun w => ?_⟩) ?_
        · go_simp
        simp only [Act.put, List.setIfInBounds_toArray, List.set_cons_zero, List.set_cons_succ]
        refine wpAny_ready (rs := [0]) (by kernel_rfl) (by simp) (AllReady.cons rfl (fun K hK => ?_) AllReady.nil)
        go_simp
        refine hK _ _ ?_
        clear hK K
        refine wpAny_ready (rs := [3]) (by kernel_rfl) (by simp) (AllReady.cons rfl (fun K hK => ?_) AllReady.nil)
        refine Kd.R_append_rows_step (Kd.int .u8) (w0 := w) w.heap.size rfl (.tmp 18) (.tmp 20) 22 5 (.int .u8 0) 1 rfl Try.underlying22 info_u8 rfl (by decide) (by omega) v (flat b ps) t _ _ _ (fun k => w1.heap.size ≤ k) (fun _ => False) rfl rfl (Kd.R_drew HRO.out) (Kd.C_drew (tail_reads HT.out)) (fun _ _ h => h) (fun _ h => h.elim) (fun k hk => by have := HN1.out; exact Nat.le_trans this hk) (below_drew1 HBW.out) HBW.out.size (by have := HFL.out; omega) ?_
        intro v3 W3 ho hb hg hat
        refine hK _ _ ?_
        clear hK K
        obtain ⟨A3, c3, hv3⟩ := Kd.R_slice ho
        subst hv3
        have HK3 := Aside0.mk (blk_drew HBO.out hg (Kd.R_lt HRO.out) (Kd.R_ne HRO.out HBO.out (by decide)))
        have hc4 := (blk_cell HK3.out 0).trans rfl
        have hf4 := blk_frozen HK3.out 0
        have HO3 := Aside0.mk ho
        have HB3 := Aside0.mk hb
        have HG3 := Aside0.mk hg
        clear ho hb hg hat
        simp only [Act.put, List.setIfInBounds_toArray, List.set_cons_zero, List.set_cons_succ]
        refine wpAny_ready (rs := [4]) (by kernel_rfl) (by simp) (AllReady.cons rfl (fun K hK => ?_) AllReady.nil)
        go_simp
        refine hK _ _ ?_
        clear hK K
        refine wpAny_done (by kernel_rfl) ?_ _
        obtain ⟨_, _, _, hgd, hb0, hb1, _, _⟩ := HI.out
        have hS := good_done (ps := ps) (x := x) (by omega) HRO.out hgd hb0 hb1 HN1.out HF.out HG3.out (by rw [HX.out]; exact HP.out) HO3.out HB3.out HK3.out
        rw [List.length_append] at hS
        exact hS
    · have e1 : (y == 240) = false := by simpa using h240
      have e2 : (y != 240) = true := by simpa using h240
      have HF := Aside0.mk (show good (piece b x) = false by rw [HX.out, HG.out, decide_eq_false h240, Bool.false_and])
      clear h240
      gi_wp2
      exact ret_done HI.out HF.out
  case done =>
    rintro D ys W hD rfl ⟨v, ho, hro, hgd, hb0, hb1, hbw, hnw⟩ hK
    obtain ⟨A3, c3, hv3⟩ := Kd.R_slice hro
    subst hv3
    have hS : wholeS b = (flat b (List.finRange (nch b.length)), true) := by
      unfold wholeS
      rw [flat_all, if_pos]
      unfold allG
      rw [List.all_eq_true]
      intro k hk
      exact hgd ⟨k, List.mem_range.1 hk⟩ (List.mem_finRange _)
    have HS := Aside0.mk hS
    have hbo : W.cell? ⟨w.heap.size + 1 + 1, 0, none⟩ = some (.slice A3 (flat b (List.finRange (nch b.length))).length c3) := (blk_cell ho 0).trans rfl
    have hc0 : W.cell? ⟨w.heap.size, 0, none⟩ = some (.slice none 0 0) := (blk_cell hb0 0).trans rfl
    have hf0 := blk_frozen hb0 0
    have hc1 : W.cell? ⟨w.heap.size + 1, 0, none⟩ = some (.bool false) := (blk_cell hb1 0).trans rfl
    have hf1 := blk_frozen hb1 0
    generalize flat b (List.finRange (nch b.length)) = L at hro hbo ho HS
    have HK := Aside0.mk hK
    have HRO := Aside0.mk hro
    have HBW := Aside0.mk hbw
    have HB0 := Aside0.mk hb0
    have HB1 := Aside0.mk hb1
    clear hS ho hro hgd hb0 hb1 hbw hnw h0 bs bn hK
    gi_wp2
    have hD2 : D ≠ w.heap.size ∧ D ≠ w.heap.size + 1 := by omega
    obtain ⟨W2, hW2⟩ : ∃ W2, (W.setCell ⟨w.heap.size, 0, none⟩ (.slice A3 L.length c3)).setCell ⟨w.heap.size + 1, 0, none⟩ (.bool true) = W2 := ⟨_, rfl⟩
    have hK2 : W2.heap[D]? = some (.deferred (some [])) := by
      rw [← hW2, Below.heap_setCell _ ⟨w.heap.size + 1, 0, none⟩ _ _ hD2.2, Below.heap_setCell _ ⟨w.heap.size, 0, none⟩ _ _ hD2.1]
      exact HK.out
    have g0 : W2.heap[w.heap.size]? = some (.cells #[.slice A3 L.length c3] 22 (0, 0)) := by
      rw [← hW2, Below.heap_setCell _ ⟨w.heap.size + 1, 0, none⟩ _ _ (by simp)]
      simpa using blk_set HB0.out 0 (.slice A3 L.length c3)
    have g1 : W2.heap[w.heap.size + 1]? = some (.cells #[.bool true] 4 (0, 0)) := by
      have h : (W.setCell ⟨w.heap.size, 0, none⟩ (.slice A3 L.length c3)).heap[w.heap.size + 1]? = some (.cells #[.bool false] 4 (0, 0)) := by
        rw [Below.heap_setCell _ ⟨w.heap.size, 0, none⟩ _ _ (by simp)]
        exact HB1.out
      rw [← hW2]
      simpa using blk_set h 0 (.bool true)
    have hB2 : Below w.heap.size w W2 := by rw [← hW2]; exact below_set (below_set HBW.out (Nat.le_refl _)) (Nat.le_succ _)
    have hR2 : (Kd.int .u8).R 5 W2 w.heap.size (fun k => w1.heap.size ≤ k) (.slice A3 L.length c3) L := by
      rw [← hW2]
      exact Kd.R_far (p := ⟨w.heap.size + 1, 0, none⟩) (Kd.R_far (p := ⟨w.heap.size, 0, none⟩) HRO.out (fun k hk e => by dsimp only at e; omega) _) (fun k hk e => by dsimp only at e; omega) _
    rw [hW2]
    clear hW2
    refine ⟨by simp, .inl ⟨_, _, rfl, run_takeDeferred hK2, ?_⟩⟩
    have hg : W2.grownBy (W2.putObj D (.deferred none)) (some D) := grownBy_putObj' W2 D _
    have hr : ∀ r, some D = some r → ∃ o : Obj, W2.heap[r]? = some o ∧ o.isCells = false := fun r e => by cases e; exact ⟨_, hK2, rfl⟩
    have k0 := (blk_cell (blk_own g0 hg hr) 0).trans rfl
    have k1 := (blk_cell (blk_own g1 hg hr) 0).trans rfl
    refine ⟨.tuple #[.slice A3 L.length c3, .bool true], ?_, .slice A3 L.length c3, by rw [HS.out], ?_, hB2.grown hg hB2.size (fun k e => by cases e; omega)⟩
    · simp [results, Try.f15, go_sem, k0, k1]
    · rw [HS.out]
      exact Kd.R_mono (R_own' hR2 hg hr) (fun _ _ => trivial)
  case stop =>
    rintro D c ps W hD ⟨k, hk, rfl⟩ ⟨rfl, ⟨x, hx, hgx⟩, hb0, hb1, hbw⟩ hK
    have hS : wholeS b = ([], false) := by
      unfold wholeS
      rw [if_neg]
      intro h
      unfold allG at h
      rw [List.all_eq_true] at h
      have := h x (List.mem_range.2 x.2)
      rw [hgx] at this
      cases this
    have HS := Aside0.mk hS
    have HK := Aside0.mk hK
    have HB0 := Aside0.mk hb0
    have HB1 := Aside0.mk hb1
    have HBW := Aside0.mk hbw
    clear hS hK hb0 hb1 hbw hx hgx h0 bs bn
    gi_wp2
    refine ⟨by simp, .inl ⟨_, _, rfl, run_takeDeferred HK.out, ?_⟩⟩
    have hg : W.grownBy (W.putObj D (.deferred none)) (some D) := grownBy_putObj' W D _
    have hr : ∀ r, some D = some r → ∃ o : Obj, W.heap[r]? = some o ∧ o.isCells = false := fun r e => by cases e; exact ⟨_, HK.out, rfl⟩
    have k0 := (blk_cell (blk_own HB0.out hg hr) 0).trans rfl
    have k1 := (blk_cell (blk_own HB1.out hg hr) 0).trans rfl
    refine ⟨.tuple #[.slice none 0 0, .bool false], ?_, .slice none 0 0, by rw [HS.out], ?_, HBW.out.grown hg HBW.out.size (fun k e => by cases e; omega)⟩
    · simp [results, Try.f15, go_sem, k0, k1]
    · rw [HS.out]
      exact Kd.R_nil _ _ _ _ _
end Go.Proofs.Ytobljmgoengofaa.Whole
