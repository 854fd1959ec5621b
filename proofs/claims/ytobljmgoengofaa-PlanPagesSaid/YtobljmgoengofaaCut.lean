import Derived.Test.YtobljmgoengofaaChunk
/- alloc.Cut: what it hands back. -/
namespace Go.Proofs.Ytobljmgoengofaa.Cut
open Go.RowKit Go.Proofs.Ytobljmgoengofaa.Base Go.Proofs.Ytobljmgoengofaa.Chunk Go.Proofs.Ytobljmgoengofaa.Fence0 Go.Proofs.YtobljmgoengofaaW.PrintWords Go.Proofs.YtobljmgoengofaaW.PrintLast Go.Proofs.YtobljmgoengofaaW.PrintMore

attribute [local go_sem] Oper.semAt_some

/-- A row of one's own, where no block with cells was written. -/
theorem R_own' {α : Type} {d : Kd α} {e base : Nat} {ok : Nat → Prop} {W W1 : World} {v : Value} {xs : List α} {row : Option Nat} (h : d.R e W base ok v xs) (hg : W.grownBy W1 row) (hr : ∀ r, row = some r → ∃ o : Obj, W.heap[r]? = some o ∧ o.isCells = false) : d.R e W1 base ok v xs := by
  refine Kd.R_mono (Kd.R_move (Kd.R_bound h) (fun k hk => hg.block k hk.2.2.1 (fun e => ?_))) (fun _ hk => hk.1)
  obtain ⟨o, ho, hc⟩ := hr k e.symm
  obtain ⟨_, _, _, q, _, cells, hcs⟩ := hk
  rw [hcs] at ho
  cases ho
  simp [Obj.isCells] at hc
theorem blk_own {W W1 : World} {b : Nat} {cs : Array Value} {t : TypeId} {fr : Nat × Nat} {row : Option Nat} (h : W.heap[b]? = some (.cells cs t fr)) (hg : W.grownBy W1 row) (hr : ∀ r, row = some r → ∃ o : Obj, W.heap[r]? = some o ∧ o.isCells = false) : W1.heap[b]? = some (.cells cs t fr) := by
  refine (hg.block b (blk_lt h) (fun e => ?_)).trans h
  obtain ⟨o, ho, hc⟩ := hr b e.symm
  rw [h] at ho
  cases ho
  simp [Obj.isCells] at hc
/-- Piece k's bytes. -/
def piece (b : List Int) (k : Nat) : List Int := (b.drop (256 * k)).take (plen b.length k)
theorem piece_len (b : List Int) (k : Nat) : (piece b k).length = plen b.length k := by
  unfold piece plen
  rw [List.length_take, List.length_drop]
  omega
/-- What a piece reads as. -/
theorem piece_reads {W : World} {A : Option Addr} {b : List Int} (h : Rb W A b) (k : Nat) : Kd.C (Kd.int .u8) W (A.map (fun a => a.add (256 * k))) (plen b.length k) (piece b k) := by
  have h' := Kd.reads_of_C (d := (0 : Int)) h
  refine Kd.C_of_reads (d := (0 : Int)) ⟨piece_len b k, by have := h'.2.1; unfold plen; omega, fun h0 => ?_⟩
  have hk : 256 * k < b.length := by unfold plen at h0; omega
  obtain ⟨ad, rfl, hc⟩ := h'.2.2 (by omega)
  refine ⟨_, rfl, fun j hj => ?_⟩
  have hj2 : 256 * k + j < b.length := by unfold plen at hj; omega
  rw [Addr.add_add, hc _ hj2]
  congr 2
  unfold piece
  rw [List.getD_eq_getElem?_getD, List.getD_eq_getElem?_getD, List.getElem?_take_of_lt hj, List.getElem?_drop]
/-- Piece k as a sector. -/
def sector (b : List Int) (k : Nat) : List Int := piece b k ++ List.replicate (256 - plen b.length k) 0
def sectors (b : List Int) : List (List Int) := (List.finRange (nch b.length)).map (fun x : Fin (nch b.length) => sector b x)

theorem sector_eq (b : List Int) (k : Nat) : (piece b k).take (min (plen b.length k) (List.replicate 256 (0 : Int)).length) ++ (List.replicate 256 (0 : Int)).drop (min (plen b.length k) (List.replicate 256 (0 : Int)).length) = sector b k := by
  have h : min (plen b.length k) (List.replicate 256 (0 : Int)).length = plen b.length k := by rw [List.length_replicate]; unfold plen; omega
  rw [h, List.take_of_length_le (by rw [piece_len]; exact Nat.le_refl _), List.drop_replicate]
  rfl
abbrev KR : Kd (List Int) := Kd.slice 5 (Kd.int .u8)
def I (w : World) (Bo n1 : Nat) (b : List Int) (ps : List (Fin (nch b.length))) (W : World) : Prop :=
  ∃ v, W.heap[Bo]? = some (.cells #[v] 40 (0, 0)) ∧ KR.R 22 W w.heap.size (fun k => n1 ≤ k) v (ps.map (fun x : Fin (nch b.length) => sector b x)) ∧ Below w.heap.size w W ∧ n1 ≤ W.heap.size
theorem I_own {w : World} {Bo n1 : Nat} {b : List Int} (hw : w.heap.size ≤ n1) : OwnFrom n1 (I w Bo n1 b) := by
  rintro s W W1 row ⟨v, h1, h2, h3, h4⟩ hg hr
  have hr2 := fun r e => (hr r e).2
  exact ⟨v, blk_own h1 hg hr2, R_own' h2 hg hr2, h3.grown hg h3.size (fun k e => Nat.le_trans hw (hr k e).1), Nat.le_trans h4 hg.size⟩

theorem cell_out {W W1 W2 : World} {g t : Nat} {v v1 : Value} (h : W.heap[g]? = some (.cells #[v] t (0, 0))) (h1 : W.grownBy W1 none) (h2 : W1.grownBy W2 v1.ownBlock) (hf : ∃ b, v1.ownBlock = some b ∧ W.heap.size ≤ b) : W2.cell? ⟨g, 0, none⟩ = some v := by
  obtain ⟨b, e, hb⟩ := hf
  have hlt := blk_lt h
  have e1 := h1.block g hlt (by simp)
  have e2 := h2.block g (Nat.lt_of_lt_of_le hlt h1.size) (by rw [e]; intro h; cases h; omega)
  exact (blk_cell ((e2.trans e1).trans h) 0).trans rfl
theorem blk_out {W W1 W2 W3 : World} {g : Nat} {v v1 : Value} (h : W.heap[g]? = some (.cells #[v] 40 (0, 0))) (h1 : W.grownBy W1 none) (h2 : W1.grownBy W2 v1.ownBlock) (hf : ∃ b, v1.ownBlock = some b ∧ W.heap.size ≤ b) (h3 : W2.grownBy W3 v.ownBlock) (ht : ∀ k, v.ownBlock = some k → ∃ cells, W.heap[k]? = some (.cells cells 22 (0, 0))) : W3.heap[g]? = some (.cells #[v] 40 (0, 0)) := by
  obtain ⟨b, e, hb⟩ := hf
  have hlt := blk_lt h
  have e1 := h1.block g hlt (by simp)
  have e2 := h2.block g (Nat.lt_of_lt_of_le hlt h1.size) (by rw [e]; intro h; cases h; omega)
  refine ((h3.block g (by have := h1.size; have := h2.size; omega) (fun e3 => ?_)).trans (e2.trans e1)).trans h
  obtain ⟨cells, hc⟩ := ht g e3.symm
  rw [h] at hc
  simp at hc
theorem rows_keep {α : Type} {d : Kd α} {e base : Nat} {ok : Nat → Prop} {W W1 W2 : World} {v v1 : Value} {xs : List α} (h : d.R e W base ok v xs) (h1 : W.grownBy W1 none) (h2 : W1.grownBy W2 v1.ownBlock) (hf : ∃ b, v1.ownBlock = some b ∧ W.heap.size ≤ b) : d.R e W2 base ok v xs := by
  obtain ⟨b, e, hb⟩ := hf
  refine Kd.R_step h (fun k _ hk => ?_)
  exact (h2.block k (Nat.lt_of_lt_of_le hk h1.size) (by rw [e]; intro h; cases h; omega)).trans (h1.block k hk (by simp))
theorem store_done {w W W1 W2 W3 : World} {n1 : Nat} {rows rows' : List (List Int)} {v v1 v3 : Value} {ok1 : Nat → Prop} {l1 : List Int} (hsz : w.heap.size < n1) (hro : KR.R 22 W w.heap.size (fun k => n1 ≤ k) v rows) (hnw : n1 ≤ W.heap.size)
    (h1 : W.grownBy W1 none) (h2 : W1.grownBy W2 v1.ownBlock) (hf : ∃ b, v1.ownBlock = some b ∧ W.heap.size ≤ b) (ho1 : (Kd.int .u8).R 5 W1 w.heap.size ok1 v1 l1) (h3 : W2.grownBy W3 v.ownBlock) (ho3 : KR.R 22 W3 w.heap.size (fun k => n1 ≤ k) v3 rows') (hb3 : Below w.heap.size w W3) (hk3 : W3.heap[w.heap.size]? = some (.cells #[v] 40 (0, 0))) :
    KeepsFrom n1 W (W3.setCell ⟨w.heap.size, 0, none⟩ v3) ∧ KpB n1 w.heap.size W (W3.setCell ⟨w.heap.size, 0, none⟩ v3) ∧ ∃ v', (W3.setCell ⟨w.heap.size, 0, none⟩ v3).heap[w.heap.size]? = some (.cells #[v'] 40 (0, 0)) ∧ KR.R 22 (W3.setCell ⟨w.heap.size, 0, none⟩ v3) w.heap.size (fun k => n1 ≤ k) v' rows' ∧ Below w.heap.size w (W3.setCell ⟨w.heap.size, 0, none⟩ v3) ∧ n1 ≤ (W3.setCell ⟨w.heap.size, 0, none⟩ v3).heap.size := by
  have hro2 := rows_keep hro h1 h2 hf
  obtain ⟨g, e, hg⟩ := hf
  have k1 : KeepsOthers W W1 := KeepsOthers.of_grownBy h1 (fun j o e => by cases e)
  have k2 : KeepsOthers W1 W2 := KeepsOthers.of_grownBy h2 (fun j o e ho => by
    obtain ⟨cells, hc⟩ := Kd.R_typed ho1 j e
    rw [ho] at hc
    cases hc
    rfl)
  have k3 : KeepsOthers W2 W3 := KeepsOthers.of_grownBy h3 (fun j o e ho => by
    obtain ⟨cells, hc⟩ := Kd.R_typed hro2 j e
    rw [ho] at hc
    cases hc
    rfl)
  have hs := h1.size
  have hs2 := h2.size
  have hs3 := h3.size
  refine ⟨(((k1.trans k2).trans k3).trans (KeepsOthers.setCell _ _ _)).from n1, fun k hk hne => ?_, v3, by simpa using blk_set hk3 0 v3, Kd.R_far (p := ⟨w.heap.size, 0, none⟩) ho3 (fun k hk e => by dsimp only at e; omega) v3, below_set hb3 (Nat.le_refl _), ?_⟩
  · rw [Below.heap_setCell W3 ⟨w.heap.size, 0, none⟩ v3 k hne, h3.block k (by omega) (fun e3 => by have := hro.1 k e3.symm; omega), h2.block k (by omega) (fun e3 => by rw [e] at e3; cases e3; omega), h1.block k (by omega) (by simp)]
  · have := (KeepsOthers.setCell W3 ⟨w.heap.size, 0, none⟩ v3).size
    omega
theorem tight_ok {W : World} {n1 : Nat} {v v1 : Value} (hn : n1 ≤ W.heap.size) (hf : ∃ b, v1.ownBlock = some b ∧ W.heap.size ≤ b) (hlt : ∀ k, v.ownBlock = some k → k < W.heap.size) : ∀ k, some k = v1.ownBlock → n1 ≤ k ∧ some k ≠ v.ownBlock := by
  obtain ⟨b, e, hb⟩ := hf
  intro k hk
  rw [e] at hk
  cases hk
  exact ⟨by omega, fun h => by have := hlt b h.symm; omega⟩
theorem info22 : (Try.prog.info? 22).map (fun i => (i.zero, i.size, i.bytes)) = some (some (.slice none 0 0), 1, 24) := by kernel_rfl

set_option maxHeartbeats 2000000 in
set_option maxRecDepth 100000 in
theorem cut_ (A : Option Addr) (c : Nat) (b : List Int) (w : World) (hr : Rb w A b) (hc : b.length ≤ c) (hl : b.length < 140737488355328) :
    CallsIn Fence.wide 6 Try.prog 31 #[.slice A b.length c] w fun e w' => ∃ v, e = .returned v ∧ KR.R 22 w' w.heap.size (fun _ => True) v (sectors b) ∧ Below w.heap.size w w' := by
  have HR := Aside0.mk hr
  have HC := Aside0.mk hc
  have HL := Aside0.mk hl
  have hA : 0 < b.length → ∃ a, A = some a := fun h0 => (Kd.C_get hr 0 0 (by omega) (by omega)).elim fun a h => ⟨a, h.choose_spec.1⟩
  have HA := Aside0.mk hA
  clear hr hc hl hA
  refine callsIn_of_wp_marks Try.func31 rfl trivial ?_ rfl
  simp only [Try.ntmps31, List.size_toArray, List.length_cons, List.length_nil, Nat.reduceAdd, Nat.reduceSub, Array.replicate_succ, Array.replicate_zero, List.push_toArray, List.append_toArray, List.nil_append, List.cons_append]
  gi_wp2
  refine ⟨trivial, (chunk_in 5 _ _ _ _).mono ?_⟩
  rintro e w' ⟨rfl, rfl⟩
  gi_wp2
  obtain ⟨w1, hw1⟩ : ∃ w1, ((w.alloc (.cells #[.slice none 0 0] 40)).alloc (.cells #[.slice A b.length c] 22)).alloc (.cells #[.int .i64 256] 3) = w1 := ⟨_, rfl⟩
  have hsz : w1.heap.size = w.heap.size + 3 := by rw [← hw1]; simp
  have hB : Below w.heap.size w w1 := by rw [← hw1]; exact below_alloc (below_alloc (below_alloc (Below.refl _ _) _) _) _
  have bo : w1.heap[w.heap.size]? = some (.cells #[.slice none 0 0] 40 (0, 0)) := by
    rw [← hw1]
    exact ((Boxed.new w 40 (.slice none 0 0)).alloc _).alloc _
  have bs : w1.cell? ⟨w.heap.size + 1, 0, none⟩ = some (.slice A b.length c) := by
    have h := Boxed.new (w.alloc (.cells #[.slice none 0 0] 40)) 22 (.slice A b.length c)
    rw [World.size_alloc] at h
    rw [← hw1]
    exact (h.alloc _).cell
  have bn : w1.cell? ⟨w.heap.size + 1 + 1, 0, none⟩ = some (.int .i64 256) := by
    have h := Boxed.new ((w.alloc (.cells #[.slice none 0 0] 40)).alloc (.cells #[.slice A b.length c] 22)) 3 (.int .i64 256)
    rw [World.size_alloc, World.size_alloc] at h
    rw [← hw1]
    exact h.cell
  rw [hw1]
  have h0 : I w w.heap.size w1.heap.size b [] w1 := ⟨_, bo, Kd.R_nil _ _ _ _ _, hB, Nat.le_refl _⟩
  clear hw1 bo
  refine wpIn_rangeFunc_ownG (F := Fence.wide) rfl (by omega) (gf := 78) (lb := #[.pointer (some ⟨w.heap.size + 1, 0, none⟩), .pointer (some ⟨w.heap.size + 1 + 1, 0, none⟩)]) rfl trivial (enters_of Try.func78 (by kernel_rfl) rfl)
    (chunk_stops 5 (w.heap.size + 1) (w.heap.size + 1 + 1) w1.heap.size w.heap.size A b.length c HC.out HL.out HA.out (by omega) (by omega) (by omega) (by omega) w1 (Nat.le_refl _) bs bn) (fun h k => KpB.trans h k) KpB.put (Below.refl _ _) (fun _ => rfl)
    (I w w.heap.size w1.heap.size b) (fun _ _ _ => False) (I_own (by omega)) (fun _ _ _ _ _ hs _ _ => hs) h0
    (fun x => { tmps := #[.slice A b.length c, undef, .slice none 0 0, .pointer (some ⟨w.heap.size, 0, none⟩), .slice (A.map (fun a => a.add (256 * x))) (plen b.length x) (plen b.length x), undef, .slice A b.length c, .func (.func 78) #[] #[.pointer (some ⟨w.heap.size + 1, 0, none⟩), .pointer (some ⟨w.heap.size + 1 + 1, 0, none⟩)], .slice (A.map (fun a => a.add (256 * x))) (plen b.length x) (plen b.length x), undef, undef, undef, undef, undef, undef, undef, undef, undef], defers := [] }) ?assign ?body ?done ?stop
  case assign =>
    intro l x W K hK
    gi_wp2
    exact hK
  case body =>
    rintro l ps x W ⟨v, hbo, hro, hbw, hnw⟩ hlen
    have hn8 : nch b.length ≤ 549755813888 := by have := HL.out; unfold nch; omega
    have HBO := Aside0.mk hbo
    have HRO := Aside0.mk hro
    have HBW := Aside0.mk hbw
    have HN1 := Aside0.mk hnw
    have HLN := Aside0.mk (show (ps.map (fun x : Fin (nch b.length) => sector b x)).length + 1 ≤ 549755813888 by rw [List.length_map]; omega)
    generalize hrows : ps.map (fun x : Fin (nch b.length) => sector b x) = rows at HRO HLN
    have HROWS := Aside0.mk hrows
    clear hbo hro hbw hnw hlen hn8 hrows h0 bs bn
    have e256 : List.replicate (Int.toNat 256) (0 : Int) = List.replicate 256 0 := rfl
    have HE := Aside0.mk e256
    clear e256
    gi_wp2_with (first
      | (refine in_make (o := ⟨some 9, _, _, _, _, _⟩) rfl rfl ?_; refine Kd.R_make (Kd.int .u8) (w0 := w) w.heap.size 5 rfl (N := 9) rfl 22 _ _ rfl 256 rfl rfl Try.underlying22 (.int .u8 0) 1 info_u8 rfl (by decide) (by omega) 0 (ok := fun k => W.heap.size ≤ k) (okp := fun k => W.heap.size ≤ k) rfl (fun _ hk => hk) (Nat.le_refl _) (by omega) (by omega) HBW.out HBW.out.size ?_; intro v1 W1 ho hb hg hf; refine ⟨rfl, ?_⟩; rw [HE.out] at ho; obtain ⟨A1, c1, hv1⟩ := Kd.R_slice ho; rw [List.length_replicate] at hv1; subst hv1; have HO1 := Aside0.mk ho; have HB1 := Aside0.mk hb; have HG1 := Aside0.mk hg; have HF1 := Aside0.mk hf; clear ho hb hg hf)
      | (refine in_builtin (o := ⟨some 12, _, _, _, _, _⟩) rfl rfl (.inr rfl) ?_; refine Kd.R_copy (0 : Int) (w0 := w) w.heap.size rfl (.tmp 10) (.tmp 11) 22 22 5 rfl Try.underlying22 (by kernel_rfl) (.slice A1 256 c1) (List.replicate 256 0) (piece b x) _ _ _ (fun k => W.heap.size ≤ k) rfl rfl HO1.out (piece_reads (Kd.C_below HR.out HB1.out) x) HB1.out HB1.out.size ?_; intro W2 ho hb hg; refine ⟨rfl, ?_⟩; rw [sector_eq] at ho; have HO2 := Aside0.mk ho; have HB2 := Aside0.mk hb; have HG2 := Aside0.mk hg; have hc3 := cell_out HBO.out HG1.out HG2.out HF1.out; clear ho hb hg)
      | (refine in_builtin (o := ⟨some 16, _, _, _, _, _⟩) rfl rfl (.inl rfl) ?_; refine Kd.R_append (Kd.slice 5 (Kd.int .u8)) (w0 := w) w.heap.size rfl (.tmp 13) (.tmp 15) 40 22 (.slice none 0 0) 24 rfl Try.underlying40 info22 rfl (by decide) (by omega) v rows (sector b x) [.slice A1 256 c1] (fun k => w1.heap.size ≤ k) (fun k => some k = (Value.slice A1 256 c1).ownBlock) rfl rfl (Kd.M_row (Kd.R_tight rfl HO2.out)) (tight_ok HN1.out HF1.out (Kd.R_lt HRO.out)) (fun k hk => by have := HN1.out; have := HG1.out.size; have := HG2.out.size; omega) (rows_keep HRO.out HG1.out HG2.out HF1.out) HB2.out HB2.out.size (by have := HLN.out; omega) ?_; intro v3 W3 ho hb hg hat; refine ⟨rfl, ?_⟩; obtain ⟨A3, c3, hv3⟩ := Kd.R_slice ho; subst hv3; have HK3 := Aside0.mk (blk_out HBO.out HG1.out HG2.out HF1.out hg (Kd.R_typed HRO.out)); have hc4 := (blk_cell HK3.out 0).trans rfl; have hf4 := blk_frozen HK3.out 0; have HO3 := Aside0.mk ho; have HB3 := Aside0.mk hb; have HG3 := Aside0.mk hg; clear ho hb hg hat))
    have hS := store_done (by omega) HRO.out HN1.out HG1.out HG2.out HF1.out HO1.out HG3.out HO3.out HB3.out HK3.out
    rw [show (rows ++ [sector b x]).length = rows.length + 1 from by simp] at hS
    refine ⟨hS.1, hS.2.1, ?_⟩
    obtain ⟨v', a1, a2, a3⟩ := hS.2.2
    exact ⟨v', a1, by rw [List.map_append, HROWS.out]; exact a2, a3⟩
  case done =>
    rintro D ys W hD rfl ⟨v, hbo, hro, hbw, hnw⟩ hK
    have hbc : W.cell? ⟨w.heap.size, 0, none⟩ = some v := (blk_cell hbo 0).trans rfl
    have HK := Aside0.mk hK
    have HRO := Aside0.mk hro
    have HBW := Aside0.mk hbw
    clear hbo hro hbw hnw h0 bs bn hK
    gi_wp2
    refine ⟨by simp, .inl ⟨_, _, rfl, run_takeDeferred HK.out, ?_⟩⟩
    have hg : W.grownBy (W.putObj D (.deferred none)) (some D) := grownBy_putObj' W D _
    have hr : ∀ r, some D = some r → ∃ o : Obj, W.heap[r]? = some o ∧ o.isCells = false := fun r e => by cases e; exact ⟨_, HK.out, rfl⟩
    exact ⟨_, results_tmp rfl _ _ _, v, rfl, Kd.R_mono (R_own' HRO.out hg hr) (fun _ _ => trivial), HBW.out.grown hg HBW.out.size (fun k e => by cases e; omega)⟩
  case stop =>
    rintro D c pre W _ _ h _
    exact h.elim
end Go.Proofs.Ytobljmgoengofaa.Cut
