/- Own and printed texts, laid together. -/
import Derived.Test.YtbebkogkeepfoaaTrXD
import Derived.Great.BuildSlice
import Derived.Test.YtbebkogkeepfoaaTrXC
import Derived.Lib.SliceRun
/- slices.Reverse at sums, in a row of one's own. -/
namespace Go.Proofs.Ytbebkogkeepfoaa.Tree
set_option linter.unusedVariables false
set_option linter.unusedSimpArgs false
open Go.RowKit Go.Proofs.Ytbebkogkeepfoaa.Base Go.Proofs.Ytbebkogkeepfoaa.TlvPlain Go.Proofs.Ytbebkogkeepfoaa.ShaPlain Go.Proofs.Ytbebkogkeepfoaa.Sha Go.Proofs.Ytbebkogkeepfoaa.Com Go.Proofs.Ytbebkogkeepfoaa.Aid Go.Proofs.YtbebkogkeepfoaaW.PrintWords Go.Proofs.YtbebkogkeepfoaaW.PrintLast Go.Proofs.YtbebkogkeepfoaaW.PrintMore
section
variable {P : Program} {o : Oper} {a : Act} {Q : Exit → Act → World → Prop} {Kc : Act → World → Prop} {α : Type} {W : World}
theorem wp_load_at (ty : TypeId) (x : Operand) (ho : o.op = .load ty x) (ad : Addr) (hx : a.eval x = .pointer (some ad)) (cs : List Value) (d : TypeDesc) (hc : AtC W ad cs)
    (hu : P.underlying ty = some d) (hd : d.isRow = true) (hi : (P.info? ty).map (·.size) = some cs.length) (h : Kc (a.put o.dst (.agg cs.toArray)) W) : Oper.wp P o a W Kc Q := by
  unfold Oper.wp execOp
  simp only [ho, hx, Instr.loadAt, Instr.sureAddr, Sem.run_bind, Sem.run_pure, Result.andThen_ok, run_loadVar_at W ad ty cs d hc hu hd hi]
  exact h
/-- out[i] = x, beside others that have come up: the row, its neighbours, the world as letters. -/
theorem wp_R_store (d : Kd α) {w0 : World} (base : Nat) (hN : o.dst = none) (t : TypeId) (p x : Operand) (ho : o.op = .store t p x) (e : TypeId) {g n cap o' : Nat} (i : Int) (j : Nat) (xs : List α) (x' : α) (u : Value) (seg c : List Value) (ok okp : Nat → Prop)
    (haddr : a.eval p = .pointer (some ⟨g, o', none⟩)) (hoff : o' = i.toNat * d.sz + j) (hx : a.eval x = u) (hu : u.cells.toList = seg) (ht : (P.info? t).map (·.size) = some seg.length) (h1 : ∀ q ∈ seg, q.oneCell' = true)
    (HO : d.R e W base ok (.slice (some ⟨g, 0, none⟩) n cap) xs) (h0 : 0 ≤ i) (hi : i < n) (hcl : c.length = d.sz) (hcc : ∀ j u, c[j]? = some u → W.cell? ⟨g, i.toNat * d.sz + j, none⟩ = some u)
    (hj : j + seg.length ≤ d.sz) (hM : d.M W base okp x' (c.take j ++ seg ++ c.drop (j + seg.length))) (hokp : ∀ k, okp k → ok k ∧ k ≠ g) (HB : Below base w0 W)
    (h : ∀ w1, d.R e w1 base ok (.slice (some ⟨g, 0, none⟩) n cap) (xs.set i.toNat x') → Below base w0 w1 → W.grownBy w1 (some g) → Kc a w1) : Oper.wp P o a W Kc Q := by
  subst hoff
  obtain ⟨hrow, hg⟩ := Kd.R_seg HO i h0 hi hcl hcc hj hM hokp
  have hbg : base ≤ g := Kd.R_base HO g (by simp [Value.ownBlock])
  have hnx : n = xs.length := (Kd.R_reads' HO).1
  obtain ⟨_, inner, hown, hr⟩ := HO
  have hil : i.toNat < n := by omega
  have hB : Below base w0 (W.setCells g (i.toNat * d.sz + j) seg) := HB.trans ⟨hg.os, hg.tape, hg.output, hg.size, fun k hk => by
    have hlt : k < W.heap.size ∨ W.heap.size ≤ k := Nat.lt_or_ge _ _
    rcases hlt with hlt | hge
    · exact hg.block k hlt (fun he => by injection he with he; omega)
    · exact setCells_far seg _ k (by omega)⟩
  have hrun : (Instr.storeAt t (.pointer (some ⟨g, i.toNat * d.sz + j, none⟩)) u).run P W = .ok () (W.setCells g (i.toNat * d.sz + j) seg) := by
    rcases hown.2 with ⟨hv, _⟩ | ⟨g', cap', cur, hv, hb, hh, hnc, hcm, hcs, _⟩
    · cases hv
    injection hv with ha _ hc
    injection ha with ha
    injection ha with hg'
    subst hg'; subst hc
    refine run_store_run t u seg hh hu ht ?_ h1
    have h2 : i.toNat * d.sz + d.sz ≤ n * d.sz := by rw [← Nat.succ_mul]; exact Nat.mul_le_mul_right _ hil
    have h3 : n * d.sz ≤ cap * d.sz := Nat.mul_le_mul_right _ (by omega)
    omega
  unfold Oper.wp execOp
  simp only [ho, haddr, hx, Sem.run_bind, Sem.run_pure, Result.andThen_ok, hrun]
  show Kc (a.put o.dst undef) _
  rw [hN]
  exact h _ hrow hB hg
end
/-- A sum into an own row of sums. -/
theorem wp_sum_store {P : Program} {o : Oper} {a : Act} {Q : Exit → Act → World → Prop} {Kc : Act → World → Prop} {W w0 : World} (base : Nat) (hN : o.dst = none) (p x : Operand) (ho : o.op = .store 24 p x) {g n cap o' : Nat} (i : Nat) (xs : List Sm) (x' : Sm)
    (haddr : a.eval p = .pointer (some ⟨g, o', none⟩)) (hoff : o' = i * 32) (hx : a.eval x = .agg (nums .u8 x').toArray) (hl : x'.length = 32) (hinf : (P.info? 24).map (·.size) = some 32)
    (HO : Os W base (.slice (some ⟨g, 0, none⟩) n cap) xs) (hi : i < n) (HB : Below base w0 W)
    (h : ∀ w1, Os w1 base (.slice (some ⟨g, 0, none⟩) n cap) (xs.set i x') → Below base w0 w1 → W.grownBy w1 (some g) → Kc a w1) : Oper.wp P o a W Kc Q := by
  have hln : (nums .u8 x').length = 32 := by simp [nums, hl]
  obtain ⟨c, hcl, hcm, hcc, _⟩ := Kd.R_elem HO Z (i : Int) (by omega) (by omega)
  refine wp_R_store KS base hN 24 p x ho 24 (i : Int) 0 xs x' (.agg (nums .u8 x').toArray) (nums .u8 x') c (fun _ => True) (fun _ => False) haddr (by rw [hoff]; rfl) hx (by simp [Value.cells]) (by rw [hln]; exact hinf)
    (fun q hq => by simp only [nums, List.mem_map] at hq; obtain ⟨y, _, rfl⟩ := hq; rfl) HO (by omega) (by omega) hcl hcc (by rw [hln]; exact Nat.le_refl _) ?_ (fun _ h => h.elim) HB (by rw [Int.toNat_natCast]; exact h)
  rw [List.take_zero, List.nil_append, Nat.zero_add, hln, List.drop_of_length_le (by rw [hcl]; exact Nat.le_refl _), List.append_nil]
  exact Kd.arr_of_cells hl
/-- An element of an own row, as cells. -/
theorem os_at {W : World} {base g n cap : Nat} {xs : List Sm} (HO : Os W base (.slice (some ⟨g, 0, none⟩) n cap) xs) (i : Nat) (hi : i < n) : AtC W ⟨g, i * 32, none⟩ (nums .u8 (xs.getD i Z)) ∧ (xs.getD i Z).length = 32 := by
  obtain ⟨c, hcl, hcm, hcc, _⟩ := Kd.R_elem HO Z (i : Int) (by omega) (by omega)
  rw [Int.toNat_natCast] at hcm hcc
  have e := Open.nums_arr (KS.K_of_M hcm)
  subst e
  refine ⟨fun j v hj => ?_, hcm.1⟩
  have h := hcc j v hj
  have e : (⟨g, i * 32, none⟩ : Addr).add j = ⟨g, i * 32 + j, none⟩ := by
    unfold Addr.add
    split
    · next h0 => subst h0; rfl
    · rfl
  rw [e]
  exact h
/-- So many turned about from both ends. -/
def rv (k : Nat) (l : List Sm) : List Sm := (List.range l.length).map fun m => if m < k ∨ l.length ≤ m + k then l.getD (l.length - 1 - m) Z else l.getD m Z
theorem rv_len (k : Nat) (l : List Sm) : (rv k l).length = l.length := by simp [rv]
theorem rv_get (k : Nat) (l : List Sm) (m : Nat) (h : m < l.length) : (rv k l).getD m Z = if m < k ∨ l.length ≤ m + k then l.getD (l.length - 1 - m) Z else l.getD m Z := by
  simp [rv, List.getD_eq_getElem?_getD, List.getElem?_map, List.getElem?_range h]
theorem ext_getD {a b : List Sm} (hl : a.length = b.length) (h : ∀ m, m < a.length → a.getD m Z = b.getD m Z) : a = b := by
  apply List.ext_getElem hl
  intro m h1 h2
  have := h m h1
  rwa [List.getD_eq_getElem?_getD, List.getElem?_eq_getElem h1, List.getD_eq_getElem?_getD, List.getElem?_eq_getElem h2] at this
theorem rv_zero (l : List Sm) : rv 0 l = l := ext_getD (rv_len _ _) (fun m h => by
  rw [rv_len] at h
  rw [rv_get _ _ _ h, if_neg (by omega)])
theorem getD_reverse (l : List Sm) (m : Nat) (h : m < l.length) : l.reverse.getD m Z = l.getD (l.length - 1 - m) Z := by
  rw [List.getD_eq_getElem?_getD, List.getElem?_reverse h, List.getD_eq_getElem?_getD]
theorem rv_end (k : Nat) (l : List Sm) (hk : l.length ≤ 2 * k + 1) : rv k l = l.reverse := ext_getD (by rw [rv_len, List.length_reverse]) (fun m h => by
  rw [rv_len] at h
  rw [rv_get _ _ _ h, getD_reverse _ _ h]
  split
  · rfl
  · rw [show l.length - 1 - m = m by omega])
theorem getD_set (l : List Sm) (i m : Nat) (x : Sm) (h : m < l.length) : (l.set i x).getD m Z = if i = m then x else l.getD m Z := by
  rw [List.getD_eq_getElem?_getD, List.getElem?_set]
  split
  · next e => subst e; rw [if_pos h]; rfl
  · rw [List.getD_eq_getElem?_getD]
theorem rv_step (k : Nat) (l : List Sm) (hk : 2 * k + 1 < l.length) : ((rv k l).set k ((rv k l).getD (l.length - 1 - k) Z)).set (l.length - 1 - k) ((rv k l).getD k Z) = rv (k + 1) l := ext_getD (by simp [rv_len]) (fun m h => by
  rw [List.length_set, List.length_set, rv_len] at h
  rw [getD_set _ _ _ _ (by rw [List.length_set, rv_len]; exact h), getD_set _ _ _ _ (by rw [rv_len]; exact h), rv_get _ _ _ h, rv_get (k + 1) _ _ h, rv_get k l k (by omega), rv_get k l (l.length - 1 - k) (by omega)]
  rw [if_neg (show ¬ (k < k ∨ l.length ≤ k + k) by omega), if_neg (show ¬ (l.length - 1 - k < k ∨ l.length ≤ l.length - 1 - k + k) by omega)]
  by_cases h1 : l.length - 1 - k = m
  · subst h1
    rw [if_pos rfl, if_pos (by omega)]
    congr 1
    omega
  · rw [if_neg h1]
    by_cases h2 : k = m
    · subst h2
      rw [if_pos rfl, if_pos (by omega)]
    · rw [if_neg h2]
      by_cases h3 : m < k ∨ l.length ≤ m + k
      · rw [if_pos h3, if_pos (by omega)]
      · rw [if_neg h3, if_neg (by omega)])
end Go.Proofs.Ytbebkogkeepfoaa.Tree
/- slices.Reverse at sums walked. -/
namespace Go.Proofs.Ytbebkogkeepfoaa.Tree
set_option linter.unusedVariables false
set_option linter.unusedSimpArgs false
open Go.RowKit Go.Proofs.Ytbebkogkeepfoaa.Base Go.Proofs.Ytbebkogkeepfoaa.TlvPlain Go.Proofs.Ytbebkogkeepfoaa.ShaPlain Go.Proofs.Ytbebkogkeepfoaa.Sha Go.Proofs.Ytbebkogkeepfoaa.Com Go.Proofs.Ytbebkogkeepfoaa.Aid Go.Proofs.YtbebkogkeepfoaaW.PrintWords Go.Proofs.YtbebkogkeepfoaaW.PrintLast Go.Proofs.YtbebkogkeepfoaaW.PrintMore
structure RvI (w0 : World) (base g n cap : Nat) (l : List Sm) (k : Nat) (W : World) : Prop where
  os : Os W base (.slice (some ⟨g, 0, none⟩) n cap) (rv k l)
  hb : Below base w0 W
set_option maxHeartbeats 4000000 in
set_option maxRecDepth 100000 in
theorem rev_c (w0 w : World) (base : Nat) (v : Value) (l : List Sm) (hm : l.length ≤ 1000000) (ho : Os w base v l) (hB : Below base w0 w) :
    Calls Try.prog 65 #[v] w fun e w' => e = .returned (.tuple #[]) ∧ Os w' base v l.reverse ∧ Below base w0 w' := by
  by_cases h0 : l.length = 0
  · have hn : l = [] := List.length_eq_zero_iff.1 h0
    subst hn
    obtain ⟨A, c, rfl⟩ := Kd.R_slice ho
    have HO := Aside0.mk ho
    have HB := Aside0.mk hB
    clear ho hB hm h0
    go_enter Try.func65, Try.ntmps65
    go_wp2_with (fail)
    go_loopw [2, 3] (fun i j wx => i = .int .i64 0 ∧ j = .int .i64 (-1) ∧ wx = w) (fun _ _ _ => 0)
    case atStart => exact ⟨rfl, rfl, rfl⟩
    case round =>
      obtain ⟨rfl, rfl, rfl⟩ := hrel
      go_wp2_with (fail)
      go_end0
      exact ⟨rfl, HO.out, HB.out⟩
  · obtain ⟨g, cap, rfl, hg, hgs, _⟩ := Kd.R_form ho (by omega)
    obtain ⟨n, hn⟩ : ∃ n, l.length = n := ⟨_, rfl⟩
    have HN := Aside0.mk hn
    have H0 := Aside0.mk (show RvI w0 base g n cap l 0 w from ⟨by rw [rv_zero, ← hn]; exact ho, hB⟩)
    have hw1 : IntKind.i64.wrap ((n : Int) - 1) = (n : Int) - 1 := by rw [i64_w]; exact w64 (by omega) (by omega)
    rw [hn]
    have HM := Aside0.mk (show n ≤ 1000000 from hn ▸ hm)
    have HN0 := Aside0.mk (show ¬ n = 0 from hn ▸ h0)
    clear ho hB hm h0 hn hg hgs
    go_enter Try.func65, Try.ntmps65
    go_wp2_with (fail)
    go_loopw [2, 3] (fun i j wx => ∃ k : Nat, 2 * k ≤ n + 1 ∧ i = .int .i64 k ∧ j = .int .i64 ((n : Int) - 1 - (k : Int)) ∧ RvI w0 base g n cap l k wx) (fun i _ _ => n - (intOf i).toNat)
    case atStart => exact ⟨0, by omega, rfl, by simp, H0.out⟩
    case round =>
      clear H0
      obtain ⟨k, hk, rfl, rfl, hinv⟩ := hrel
      have HI := Aside0.mk hinv
      clear hinv
      obtain ⟨wy, hwy⟩ : ∃ wy, wy = wr := ⟨_, rfl⟩
      subst hwy
      by_cases hlt : 2 * k + 1 < n
      · have hx := os_at HI.out.os k (by omega)
        have hy := os_at HI.out.os (n - 1 - k) (by omega)
        have HST := Aside0.mk (rv_step k l (by rw [HN.out]; exact hlt))
        rw [HN.out] at HST
        obtain ⟨x, hxx⟩ : ∃ x, (rv k l).getD k Z = x := ⟨_, rfl⟩
        obtain ⟨y, hyy⟩ : ∃ y, (rv k l).getD (n - 1 - k) Z = y := ⟨_, rfl⟩
        rw [hxx] at hx HST
        rw [hyy] at hy HST
        obtain ⟨j, hj⟩ : ∃ j, n - 1 - k = j := ⟨_, rfl⟩
        rw [hj] at hy HST
        have HJ := Aside0.mk hj
        rw [show (n : Int) - 1 - (k : Int) = (j : Int) by omega]
        obtain ⟨X, hX⟩ := sumF x hx.2
        obtain ⟨Y, hY⟩ := sumF y hy.2
        have HX := Aside0.mk hx.1
        have HY := Aside0.mk hy.1
        have HXI := Aside0.mk hX.infoL
        have HYI := Aside0.mk hY.infoL
        have HXE := Aside0.mk hX.eq
        have HYE := Aside0.mk hY.eq
        have HXL := Aside0.mk hx.2
        have HYL := Aside0.mk hy.2
        have q0 : (0 : Int) ≤ (k : Int) := by omega
        have q1 : (k : Int) < (n : Int) := by omega
        have q2 : (0 : Int) ≤ (j : Int) := by omega
        have q3 : (j : Int) < (n : Int) := by omega
        have q4 : decide ((k : Int) < (j : Int)) = true := decide_eq_true (by omega)
        have q5 : decide (k < j) = true := decide_eq_true (by omega)
        have HK := Aside0.mk hlt
        clear hx hy hxx hyy hX hY hj hlt hk
        go_wp2_with (fail)
        refine wp_region_held_drew (S := fun _ => True) (by kernel_rfl) trivial (fun hHeld => ?_)
        (refine wpAnyH_take (i := 0) (v := ?_) rfl (by kernel_rfl) (by kernel_rfl) (by kernel_rfl) (fun _ _ _ h => h) (Or.inl ⟨by rfl, ?_⟩) (by assumption) ?_; (case' refine_2 => (intro w hSw; go_simp; try with_reducible rfl)); (try simp only [Act.put, List.getElem_toArray, List.getElem_cons_zero, List.getElem_cons_succ, List.setIfInBounds_toArray, List.set_cons_zero, List.set_cons_succ]))
        (refine wpAnyH_take (i := 1) (v := ?_) rfl (by kernel_rfl) (by kernel_rfl) (by kernel_rfl) (fun _ _ _ h => h) (Or.inl ⟨by rfl, ?_⟩) (by assumption) ?_; (case' refine_2 => (intro w hSw; go_simp; try with_reducible rfl)); (try simp only [Act.put, List.getElem_toArray, List.getElem_cons_zero, List.getElem_cons_succ, List.setIfInBounds_toArray, List.set_cons_zero, List.set_cons_succ]))
        (refine wpAnyH_take (i := 2) (v := ?_) rfl (by kernel_rfl) (by kernel_rfl) (by kernel_rfl) (fun _ _ _ h => h) (Or.inl ⟨by rfl, ?_⟩) (by assumption) ?_; (case' refine_2 => (intro w hSw; go_simp; try with_reducible rfl)); (try simp only [Act.put, List.getElem_toArray, List.getElem_cons_zero, List.getElem_cons_succ, List.setIfInBounds_toArray, List.set_cons_zero, List.set_cons_succ]))
        (refine wpAnyH_take (i := 3) (v := ?_) rfl (by kernel_rfl) (by kernel_rfl) (by kernel_rfl) (fun _ _ _ h => h) (Or.inl ⟨by rfl, ?_⟩) (by assumption) ?_; (case' refine_2 => (intro w hSw; go_simp; try with_reducible rfl)); (try simp only [Act.put, List.getElem_toArray, List.getElem_cons_zero, List.getElem_cons_succ, List.setIfInBounds_toArray, List.set_cons_zero, List.set_cons_succ]))
        (refine wpAnyH_take (i := 4) (v := ?_) rfl (by kernel_rfl) (by kernel_rfl) (by kernel_rfl) (fun _ _ _ h => h) (Or.inl ⟨by rfl, ?_⟩) (by assumption) ?_; (case' refine_2 => (intro w hSw; go_simp; try with_reducible rfl)); (try simp only [Act.put, List.getElem_toArray, List.getElem_cons_zero, List.getElem_cons_succ, List.setIfInBounds_toArray, List.set_cons_zero, List.set_cons_succ]))
        (refine wpAnyH_take (i := 5) (v := ?_) rfl (by kernel_rfl) (by kernel_rfl) (by kernel_rfl) (fun _ _ _ h => h) (Or.inl ⟨by rfl, ?_⟩) (by assumption) ?_; (case' refine_2 => (intro w hSw; go_simp; try with_reducible rfl)); (try simp only [Act.put, List.getElem_toArray, List.getElem_cons_zero, List.getElem_cons_succ, List.setIfInBounds_toArray, List.set_cons_zero, List.set_cons_succ]))
        (refine wpAnyH_take (i := 6) (v := ?_) rfl (by kernel_rfl) (by kernel_rfl) (by kernel_rfl) (fun _ _ _ h => h) (Or.inl ⟨by rfl, ?_⟩) (by assumption) ?_; (case' refine_2 => (intro w hSw; go_simp; try with_reducible rfl)); (try simp only [Act.put, List.getElem_toArray, List.getElem_cons_zero, List.getElem_cons_succ, List.setIfInBounds_toArray, List.set_cons_zero, List.set_cons_succ]))
        (refine wpAnyH_take (i := 8) (v := ?_) rfl (by kernel_rfl) (by kernel_rfl) (by kernel_rfl) (fun _ _ _ h => h) (Or.inl ⟨by rfl, ?_⟩) (by assumption) ?_; (case' refine_2 => (intro w hSw; go_simp; try with_reducible rfl)); (try simp only [Act.put, List.getElem_toArray, List.getElem_cons_zero, List.getElem_cons_succ, List.setIfInBounds_toArray, List.set_cons_zero, List.set_cons_succ]))
        (refine wpAnyH_take (i := 9) (v := ?_) rfl (by kernel_rfl) (by kernel_rfl) (by kernel_rfl) (fun _ _ _ h => h) (Or.inl ⟨by rfl, ?_⟩) (by assumption) ?_; (case' refine_2 => (intro w hSw; go_simp; try with_reducible rfl)); (try simp only [Act.put, List.getElem_toArray, List.getElem_cons_zero, List.getElem_cons_succ, List.setIfInBounds_toArray, List.set_cons_zero, List.set_cons_succ]))
        (refine wpAnyH_take (i := 10) (v := ?_) rfl (by kernel_rfl) (by kernel_rfl) (by kernel_rfl) (fun _ _ _ h => h) (Or.inl ⟨by rfl, ?_⟩) (by assumption) ?_; (case' refine_2 => (intro w hSw; go_simp; try with_reducible rfl)); (try simp only [Act.put, List.getElem_toArray, List.getElem_cons_zero, List.getElem_cons_succ, List.setIfInBounds_toArray, List.set_cons_zero, List.set_cons_succ]))
        have HX0 := Aside0.mk (show AtC wy.drew { block := g, off := k * 32 } (nums .u8 x) from HX.out)
        have HY0 := Aside0.mk (show AtC wy.drew { block := g, off := j * 32 } (nums .u8 y) from HY.out)
        have HO := Aside0.mk (show Os wy.drew base (.slice (some ⟨g, 0, none⟩) n cap) (rv k l) from Kd.R_drew HI.out.os)
        have HB := Aside0.mk (show Below base w0 wy.drew from below_drew HI.out.hb)
        refine wpAnyH_ready (rs := [7, 11]) (by kernel_rfl) (by simp) (AllReadyH.cons rfl (fun K hK => ?_) (AllReadyH.cons rfl (fun K hK => ?_) AllReadyH.nil))
        · rw [if_pos (by rfl)]
          refine wp_load_at 24 (.tmp 20) rfl _ rfl (nums .u8 y) _ HY0.out Try.underlying24 rfl HYI.out ?_
          rw [HYE.out]
          (refine Shut.out hK _ _ trivial (fun hHeld => ?_); clear hK K; (try simp only [Act.put, List.getElem_toArray, List.getElem_cons_zero, List.getElem_cons_succ, List.setIfInBounds_toArray, List.set_cons_zero, List.set_cons_succ]))
          refine wpAnyH_ready (rs := [11]) (by kernel_rfl) (by simp) (AllReadyH.cons rfl (fun K hK => ?_) AllReadyH.nil)
          rw [if_pos (by rfl)]
          refine wp_load_at 24 (.tmp 24) rfl _ rfl (nums .u8 x) _ HX0.out Try.underlying24 rfl HXI.out ?_
          rw [HXE.out]
          (refine Shut.out hK _ _ trivial (fun hHeld => ?_); clear hK K; (try simp only [Act.put, List.getElem_toArray, List.getElem_cons_zero, List.getElem_cons_succ, List.setIfInBounds_toArray, List.set_cons_zero, List.set_cons_succ]))
          (refine wpAnyH_take (i := 12) (v := ?_) rfl (by kernel_rfl) (by kernel_rfl) (by kernel_rfl) (fun _ _ _ h => h) (Or.inl ⟨by rfl, ?_⟩) (by assumption) ?_; (case' refine_2 => (intro w hSw; go_simp; try with_reducible rfl)); (try simp only [Act.put, List.getElem_toArray, List.getElem_cons_zero, List.getElem_cons_succ, List.setIfInBounds_toArray, List.set_cons_zero, List.set_cons_succ]))
          refine wpAnyH_ready (rs := [13]) (by kernel_rfl) (by simp) (AllReadyH.cons rfl (fun K hK => ?_) AllReadyH.nil)
          rw [if_pos (by rfl)]
          refine wp_sum_store base rfl (.tmp 26) (.tmp 21) rfl k (rv k l) y rfl rfl (by rw [HYE.out]; rfl) HYL.out info_32 HO.out (by have := HK.out; omega) HB.out ?_
          intro w3 ho hb hg
          have HO3 := Aside0.mk ho
          have HB3 := Aside0.mk hb
          clear ho hb hg HO HB
          (refine Shut.out hK _ _ trivial (fun hHeld => ?_); clear hK K; (try simp only [Act.put, List.getElem_toArray, List.getElem_cons_zero, List.getElem_cons_succ, List.setIfInBounds_toArray, List.set_cons_zero, List.set_cons_succ]))
          (refine wpAnyH_take (i := 14) (v := ?_) rfl (by kernel_rfl) (by kernel_rfl) (by kernel_rfl) (fun _ _ _ h => h) (Or.inl ⟨by rfl, ?_⟩) (by assumption) ?_; (case' refine_2 => (intro w hSw; go_simp; try with_reducible rfl)); (try simp only [Act.put, List.getElem_toArray, List.getElem_cons_zero, List.getElem_cons_succ, List.setIfInBounds_toArray, List.set_cons_zero, List.set_cons_succ]))
          refine wpAnyH_ready (rs := [15]) (by kernel_rfl) (by simp) (AllReadyH.cons rfl (fun K hK => ?_) AllReadyH.nil)
          rw [if_pos (by rfl)]
          refine wp_sum_store base rfl (.tmp 27) (.tmp 25) rfl j ((rv k l).set k y) x rfl rfl (by rw [HXE.out]; rfl) HXL.out info_32 HO3.out (by have := HK.out; have := HJ.out; omega) HB3.out ?_
          intro w4 ho hb hg
          have HF := Aside0.mk (show RvI w0 base g n cap l (k + 1) w4 from ⟨by rw [← HST.out]; exact ho, hb⟩)
          clear ho hb hg HO3 HB3
          (refine Shut.out hK _ _ trivial (fun hHeld => ?_); clear hK K; (try simp only [Act.put, List.getElem_toArray, List.getElem_cons_zero, List.getElem_cons_succ, List.setIfInBounds_toArray, List.set_cons_zero, List.set_cons_succ]))
          refine wpAnyH_done (by kernel_rfl) ?_ _
          have q6 : (k : Int) ≤ 1000000 := by have := HM.out; omega
          have q7 : (j : Int) ≤ 1000000 := by have := HM.out; omega
          go_wp2_with (fail)
          go_roundw
          case rel => exact ⟨k + 1, by have := HK.out; omega, by go_num, by have := HJ.out; have := HK.out; simp; omega, HF.out⟩
          case measure => simp [intOf]; omega
        · rw [if_pos (by rfl)]
          refine wp_load_at 24 (.tmp 24) rfl _ rfl (nums .u8 x) _ HX0.out Try.underlying24 rfl HXI.out ?_
          rw [HXE.out]
          (refine Shut.out hK _ _ trivial (fun hHeld => ?_); clear hK K; (try simp only [Act.put, List.getElem_toArray, List.getElem_cons_zero, List.getElem_cons_succ, List.setIfInBounds_toArray, List.set_cons_zero, List.set_cons_succ]))
          refine wpAnyH_ready (rs := [7]) (by kernel_rfl) (by simp) (AllReadyH.cons rfl (fun K hK => ?_) AllReadyH.nil)
          rw [if_pos (by rfl)]
          refine wp_load_at 24 (.tmp 20) rfl _ rfl (nums .u8 y) _ HY0.out Try.underlying24 rfl HYI.out ?_
          rw [HYE.out]
          (refine Shut.out hK _ _ trivial (fun hHeld => ?_); clear hK K; (try simp only [Act.put, List.getElem_toArray, List.getElem_cons_zero, List.getElem_cons_succ, List.setIfInBounds_toArray, List.set_cons_zero, List.set_cons_succ]))
          (refine wpAnyH_take (i := 12) (v := ?_) rfl (by kernel_rfl) (by kernel_rfl) (by kernel_rfl) (fun _ _ _ h => h) (Or.inl ⟨by rfl, ?_⟩) (by assumption) ?_; (case' refine_2 => (intro w hSw; go_simp; try with_reducible rfl)); (try simp only [Act.put, List.getElem_toArray, List.getElem_cons_zero, List.getElem_cons_succ, List.setIfInBounds_toArray, List.set_cons_zero, List.set_cons_succ]))
          refine wpAnyH_ready (rs := [13]) (by kernel_rfl) (by simp) (AllReadyH.cons rfl (fun K hK => ?_) AllReadyH.nil)
          rw [if_pos (by rfl)]
          refine wp_sum_store base rfl (.tmp 26) (.tmp 21) rfl k (rv k l) y rfl rfl (by rw [HYE.out]; rfl) HYL.out info_32 HO.out (by have := HK.out; omega) HB.out ?_
          intro w3 ho hb hg
          have HO3 := Aside0.mk ho
          have HB3 := Aside0.mk hb
          clear ho hb hg HO HB
          (refine Shut.out hK _ _ trivial (fun hHeld => ?_); clear hK K; (try simp only [Act.put, List.getElem_toArray, List.getElem_cons_zero, List.getElem_cons_succ, List.setIfInBounds_toArray, List.set_cons_zero, List.set_cons_succ]))
          (refine wpAnyH_take (i := 14) (v := ?_) rfl (by kernel_rfl) (by kernel_rfl) (by kernel_rfl) (fun _ _ _ h => h) (Or.inl ⟨by rfl, ?_⟩) (by assumption) ?_; (case' refine_2 => (intro w hSw; go_simp; try with_reducible rfl)); (try simp only [Act.put, List.getElem_toArray, List.getElem_cons_zero, List.getElem_cons_succ, List.setIfInBounds_toArray, List.set_cons_zero, List.set_cons_succ]))
          refine wpAnyH_ready (rs := [15]) (by kernel_rfl) (by simp) (AllReadyH.cons rfl (fun K hK => ?_) AllReadyH.nil)
          rw [if_pos (by rfl)]
          refine wp_sum_store base rfl (.tmp 27) (.tmp 25) rfl j ((rv k l).set k y) x rfl rfl (by rw [HXE.out]; rfl) HXL.out info_32 HO3.out (by have := HK.out; have := HJ.out; omega) HB3.out ?_
          intro w4 ho hb hg
          have HF := Aside0.mk (show RvI w0 base g n cap l (k + 1) w4 from ⟨by rw [← HST.out]; exact ho, hb⟩)
          clear ho hb hg HO3 HB3
          (refine Shut.out hK _ _ trivial (fun hHeld => ?_); clear hK K; (try simp only [Act.put, List.getElem_toArray, List.getElem_cons_zero, List.getElem_cons_succ, List.setIfInBounds_toArray, List.set_cons_zero, List.set_cons_succ]))
          refine wpAnyH_done (by kernel_rfl) ?_ _
          have q6 : (k : Int) ≤ 1000000 := by have := HM.out; omega
          have q7 : (j : Int) ≤ 1000000 := by have := HM.out; omega
          go_wp2_with (fail)
          go_roundw
          case rel => exact ⟨k + 1, by have := HK.out; omega, by go_num, by have := HJ.out; have := HK.out; simp; omega, HF.out⟩
          case measure => simp [intOf]; omega
      · have hkm : n ≤ 2 * k + 1 := by omega
        have q4 : decide ((k : Int) < (n : Int) - 1 - (k : Int)) = false := decide_eq_false (by omega)
        have HF := Aside0.mk (show Os wy base (.slice (some ⟨g, 0, none⟩) n cap) l.reverse from by
          rw [← rv_end k l (by rw [HN.out]; exact hkm)]
          exact HI.out.os)
        clear hkm hlt hk
        go_wp2_with (fail)
        go_end0
        exact ⟨rfl, HF.out, HI.out.hb⟩
end Go.Proofs.Ytbebkogkeepfoaa.Tree
/- tree.Path walked. -/
namespace Go.Proofs.Ytbebkogkeepfoaa.Tree
set_option linter.unusedVariables false
set_option linter.unusedSimpArgs false
open Go.RowKit Go.Proofs.Ytbebkogkeepfoaa.Base Go.Proofs.Ytbebkogkeepfoaa.TlvPlain Go.Proofs.Ytbebkogkeepfoaa.ShaPlain Go.Proofs.Ytbebkogkeepfoaa.Sha Go.Proofs.Ytbebkogkeepfoaa.Com Go.Proofs.Ytbebkogkeepfoaa.Aid Go.Proofs.YtbebkogkeepfoaaW.PrintWords Go.Proofs.YtbebkogkeepfoaaW.PrintLast Go.Proofs.YtbebkogkeepfoaaW.PrintMore
theorem info_sums : (Try.prog.info? 24).map (fun i => (i.zero, i.size, i.bytes)) = some (some (.agg Z32), KS.sz, 32) := by kernel_rfl
def lenV : Value → Nat
  | .slice _ n _ => n
  | _ => 0
/-- A row of one's own that a call hands back. -/
abbrev RetO (w : World) (l : List Sm) (b : Bool) : Ending → World → Prop := fun e w' => ∃ v, e = .returned (.tuple #[v, .bool b]) ∧ Os w' w.heap.size v l ∧ Below w.heap.size w w'
set_option maxHeartbeats 4000000 in
set_option maxRecDepth 100000 in
theorem path_bad (A : Option Addr) (n c : Nat) (i : Int) (w : World) (h : i < 0 ∨ (n : Int) ≤ i) :
    Calls Try.prog 39 #[.slice A n c, .int .i64 i] w fun e w' => e = .returned (.tuple #[.slice none 0 0, .bool false]) ∧ w' = w := by
  by_cases h1 : i < 0
  · have d1 : decide (i < 0) = true := decide_eq_true h1
    clear h h1
    go_enter Try.func39, Try.ntmps39
    go_wp2_with (fail)
    go_ret2
    exact ⟨rfl, rfl⟩
  · have d1 : decide (i < 0) = false := decide_eq_false h1
    have d2 : decide ((n : Int) ≤ i) = true := decide_eq_true (by omega)
    clear h h1
    go_enter Try.func39, Try.ntmps39
    go_wp2_with (fail)
    go_ret2
    exact ⟨rfl, rfl⟩
/-- The cells of a sum, as a list. -/
structure SumC (cs : List Value) (d : Sm) : Prop where
  eq : nums .u8 d = cs
  len : d.length = 32
theorem sumC (d : Sm) (h : d.length = 32) : ∃ cs, SumC cs d := ⟨_, rfl, h⟩
theorem SumC.v {cs : List Value} {d : Sm} (h : SumC cs d) : sumV d = .agg cs.toArray := by rw [← h.eq]
theorem SumC.m {cs : List Value} {d : Sm} (h : SumC cs d) (W : World) (base : Nat) : KS.M W base (fun _ => False) d cs := by
  rw [← h.eq]
  exact Kd.arr_of_cells h.len
/-- Sums that are written out, as a new row. -/
theorem run_sums (W : World) (vs : List (List Value)) (hv : ∀ c ∈ vs, c.length = 32) (h0 : 0 < vs.length) (hm : vs.length ≤ 1000) : (Instr.buildSlice 52 vs.length ((vs.zipIdx 0).map fun x => (x.2, Value.agg x.1.toArray)).toArray).run Try.prog W = .ok (.slice (some ⟨W.heap.size, 0, none⟩) vs.length vs.length) (W.alloc (.cells vs.flatten.toArray 24)) := by
  obtain ⟨ie, hie, hs⟩ := info_sum
  have hz : ie.zero = some (.agg Z32) := by
    have h := info_sums
    rw [hie] at h
    simp only [Option.map_some, Option.some.injEq, Prod.mk.injEq] at h
    exact h.1
  have hf := Great.fill_whole (s := 32) (by decide) (vs.map fun c => Value.agg c.toArray) ((Array.range (vs.length * 32)).map ((Value.agg Z32).cells[· % (Value.agg Z32).cells.size]!)) (fun v hv' => by
    obtain ⟨c, hc, rfl⟩ := List.mem_map.1 hv'
    simp [Value.cells, hv c hc]) (by simp)
  refine run_buildSlice W 52 24 vs.length _ _ ie (.agg Z32) Try.underlying52 hie hz (by rw [hs]; omega) (by rw [hs]; omega) ?_
  rw [hs]
  refine Eq.trans ?_ (hf.trans ?_)
  · congr 1
    rw [List.zipIdx_map, List.map_map]
    simp
  · congr 2
    rw [List.flatMap_map]
    exact List.flatMap_id
theorem run_sum1 (W : World) (c : List Value) (hc : c.length = 32) : (Instr.buildSlice 52 1 #[(0, .agg c.toArray)]).run Try.prog W = .ok (.slice (some ⟨W.heap.size, 0, none⟩) 1 1) (W.alloc (.cells c.toArray 24)) := by
  have h := run_sums W [c] (fun x hx => by rw [List.mem_singleton.1 hx]; exact hc) (by simp) (by simp)
  rw [show [c].flatten = c from by simp] at h
  exact h
theorem SumC.lenC {cs : List Value} {d : Sm} (h : SumC cs d) : cs.length = 32 := by rw [← h.eq]; simp [nums, h.len]
theorem wpList_sum1 {ops : Array Oper} {rest : List Oper} {o : Oper} {a : Act} {w : World} {Q : Exit → Act → World → Prop} (hg : o.guard = none) (x : Operand) (ho : o.op = .buildSlice 52 1 #[(0, x)]) (cs : List Value) (hx : a.eval x = .agg cs.toArray) (hc : cs.length = 32)
    (h : wpList Try.prog ops Q rest (a.put o.dst (.slice (some ⟨w.heap.size, 0, none⟩) 1 1)) (w.alloc (.cells cs.toArray 24))) : wpList Try.prog ops Q (o :: rest) a w :=
  wpList_plain hg fun _ hK => by
    have hp : (#[((0 : Nat), x)].map fun (i, y) => (i, a.eval y)) = #[(0, .agg cs.toArray)] := by simp [hx]
    unfold Oper.wp execOp
    simp only [ho, hp, Sem.run_bind, run_sum1 w cs hc, Result.andThen_ok]
    exact hK _ _ h
structure PathI (w : World) (l0 : List Sm) (i0 : Nat) (l : List Sm) (n i : Nat) (A : Option Addr) (c : Nat) (acc : List Sm) (v : Value) (W : World) : Prop where
  len : l.length = n
  r : Rs w A l
  hc : n ≤ c
  u : Lu l
  hi : i < n
  hm : n ≤ 1000000
  o : Os W w.heap.size v acc
  e : acc ++ (pathT l i).reverse = (pathT l0 i0).reverse
  b : Below w.heap.size w W
  s : acc.length + n ≤ 1000001
theorem PathI.left {w W W' : World} {l0 l : List Sm} {i0 n i c : Nat} {A : Option Addr} {acc : List Sm} {v v' : Value} (h : PathI w l0 i0 l n i A c acc v W) (h2 : 2 ≤ n) (hk : i < hlf n)
    (ho : Os W' w.heap.size v' (acc ++ [rootT (l.drop (hlf n))])) (hb : Below w.heap.size w W') : PathI w l0 i0 (l.take (hlf n)) (hlf n) i A c (acc ++ [rootT (l.drop (hlf n))]) v' W' := by
  have hl := h.len
  have hc := h.hc
  have hm := h.hm
  have hs := h.s
  have hlt := hlf_lt h2
  refine ⟨by rw [List.length_take]; omega, Rs.take h.r (by omega), by omega, h.u.take _, hk, by omega, ho, ?_, hb, by rw [List.length_append, List.length_singleton]; omega⟩
  have he := h.e
  rw [pathT, dif_neg (by omega), hl, if_pos hk, List.reverse_append, List.reverse_singleton, ← List.append_assoc] at he
  exact he
theorem PathI.right {w W W' : World} {l0 l : List Sm} {i0 n i c : Nat} {A : Option Addr} {acc : List Sm} {v v' : Value} (h : PathI w l0 i0 l n i A c acc v W) (h2 : 2 ≤ n) (hk : ¬ i < hlf n)
    (ho : Os W' w.heap.size v' (acc ++ [rootT (l.take (hlf n))])) (hb : Below w.heap.size w W') : PathI w l0 i0 (l.drop (hlf n)) (n - hlf n) (i - hlf n) (restA A c (hlf n)) (c - hlf n) (acc ++ [rootT (l.take (hlf n))]) v' W' := by
  have hl := h.len
  have hc := h.hc
  have hm := h.hm
  have hs := h.s
  have hi := h.hi
  have hlt := hlf_lt h2
  have hp := hlf_pos n
  refine ⟨by rw [List.length_drop]; omega, Rs.drop h.r (by omega) (by omega), by omega, h.u.drop _, by omega, by omega, ho, ?_, hb, by rw [List.length_append, List.length_singleton]; omega⟩
  have he := h.e
  rw [pathT, dif_neg (by omega), hl, if_neg hk, List.reverse_append, List.reverse_singleton, ← List.append_assoc] at he
  exact he
set_option maxHeartbeats 4000000 in
set_option maxRecDepth 100000 in
theorem path_c (l0 : List Sm) (n0 : Nat) (hl : l0.length = n0) (hm : n0 ≤ 1000000) (hu : Lu l0) (i0 : Nat) (hi : i0 < n0) (A0 : Option Addr) (c0 : Nat) (hc : n0 ≤ c0) (w : World) (hr : Rs w A0 l0) :
    Calls Try.prog 39 #[.slice A0 n0 c0, .int .i64 (i0 : Int)] w (RetO w (pathT l0 i0) true) := by
  have H0 := Aside0.mk (show PathI w l0 i0 l0 n0 i0 A0 c0 [] (.slice none 0 0) w from ⟨hl, hr, hc, hu, hi, hm, Kd.R_nil _ _ _ _ _, rfl, Below.refl _ _, by simp; omega⟩)
  have d1 : decide ((i0 : Int) < 0) = false := decide_eq_false (by omega)
  have d2 : decide ((n0 : Int) ≤ (i0 : Int)) = false := decide_eq_false (by omega)
  have d3 : decide (n0 ≤ i0) = false := decide_eq_false (by omega)
  unfold RetO
  clear hl hm hu hi hc hr
  go_enter Try.func39, Try.ntmps39
  go_wp2_with (fail)
  clear d1 d2 d3
  go_loopw [0, 1, 6, 7] (fun x y v _ wx => ∃ (l : List Sm) (n i : Nat) (A : Option Addr) (c : Nat) (acc : List Sm), x = .slice A n c ∧ y = .int .i64 i ∧ PathI w l0 i0 l n i A c acc v wx) (fun x _ _ _ _ => lenV x)
  case atStart => exact ⟨l0, n0, i0, A0, c0, [], rfl, rfl, H0.out⟩
  case round =>
    clear H0
    obtain ⟨l, n, i, A, c, acc, rfl, rfl, hinv⟩ := hrel
    have HI := Aside0.mk hinv
    clear hinv
    obtain ⟨W, hwy⟩ : ∃ wy, wy = wr := ⟨_, rfl⟩
    subst hwy
    by_cases h2 : 2 ≤ n
    · have HKB := Aside0.mk (fun W => below_c n h2 (by have := HI.out.hm; omega) W)
      obtain ⟨k, hk⟩ : ∃ k, hlf n = k := ⟨_, rfl⟩
      have HK := Aside0.mk hk
      rw [hk] at HKB
      have hkl := hlf_lt h2
      have hkp := hlf_pos n
      rw [hk] at hkl hkp
      have HKL := Aside0.mk hkl
      have HKP := Aside0.mk hkp
      have H2 := Aside0.mk h2
      have HC1 := Aside0.mk (cut_a A n c k (by omega) HI.out.hc)
      have HC2 := Aside0.mk (cut_b A n c k (by omega))
      have d1 : decide (1 < (n : Int)) = true := decide_eq_true (by omega)
      by_cases hik : i < k
      · obtain ⟨D, hD⟩ := sumC (rootT (l.drop k)) (rootT_len _)
        have HR := Aside0.mk (root_c (n - k) (l.drop k) (by rw [List.length_drop, HI.out.len]) (by have := HI.out.hm; omega) (restA A c k) (c - k) W (Rs.drop (Kd.C_below HI.out.r HI.out.b) (by rw [HI.out.len]; omega) (by rw [HI.out.len]; exact HI.out.hc)) (by have := HI.out.hc; omega) (HI.out.u.drop _))
        unfold Ret at HR
        rw [hD.v] at HR
        have HD := Aside0.mk hD
        have HIK := Aside0.mk hik
        have q0 : decide ((i : Int) < (k : Int)) = true := decide_eq_true (by omega)
        have q1 : decide (i < k) = true := decide_eq_true hik
        clear hD hik hkl hkp h2 hk
        have hq1 := HC1.out
        have hq2 := HC2.out
        go_wp2_with (go_at_call 57; refine (HKB.out _).mono ?_; rintro e w' ⟨rfl, rfl⟩)
        refine HR.out.mono ?_
        rintro e w3 ⟨rfl, hb⟩
        have HO3 := Aside0.mk (Kd.R_below HI.out.o hb)
        have HB3 := Aside0.mk (below_step HI.out.b hb)
        clear hb
        go_wp2_with (first
          | ((with_reducible refine gate_dst (N := 30) rfl ?_); refine wpList_sum1 rfl (.tmp 29) rfl D rfl HD.out.lenC ?_)
          | ((with_reducible refine gate_builtin (b := .append) (xs := #[.tmp 25, .tmp 30]) rfl ?_); at_builtin; refine Kd.R_append KS (w0 := w) w.heap.size rfl (.tmp 25) (.tmp 30) 52 24 (.agg Z32) 32 rfl Try.underlying52 info_sums rfl (by decide) (by decide) _ acc _ D (fun _ => True) (fun _ => False) rfl rfl (HD.out.m _ _) (fun _ h => h.elim) (fun _ _ => trivial) HO3.out HB3.out HB3.out.size (by have := HI.out.s; omega) ?_; intro v1 w5 ho hb hg hat; have HO5 := Aside0.mk ho; have HB5 := Aside0.mk hb; clear ho hb hg hat))
        have HF := Aside0.mk (PathI.left HI.out H2.out (by rw [HK.out]; exact HIK.out) (by rw [HK.out]; exact HO5.out) HB5.out)
        rw [HK.out] at HF
        go_roundw
        case rel => exact ⟨_, _, _, _, _, _, rfl, rfl, HF.out⟩
        case measure => exact HKL.out
      · obtain ⟨D, hD⟩ := sumC (rootT (l.take k)) (rootT_len _)
        have HR := Aside0.mk (root_c k (l.take k) (by rw [List.length_take, HI.out.len]; omega) (by have := HI.out.hm; omega) A c W (Rs.take (Kd.C_below HI.out.r HI.out.b) (by rw [HI.out.len]; omega)) (by have := HI.out.hc; omega) (HI.out.u.take _))
        unfold Ret at HR
        rw [hD.v] at HR
        have HD := Aside0.mk hD
        have HIK := Aside0.mk hik
        have q0 : decide ((i : Int) < (k : Int)) = false := decide_eq_false (by omega)
        have q1 : decide (i < k) = false := decide_eq_false hik
        have qb1 : (0 : Int) ≤ (k : Int) := by omega
        have qb2 : (k : Int) ≤ (i : Int) := by omega
        have qb3 : (i : Int) ≤ 1000000 := by have := HI.out.hi; have := HI.out.hm; omega
        clear hD hik hkl hkp h2 hk
        have hq1 := HC1.out
        have hq2 := HC2.out
        go_wp2_with (go_at_call 57; refine (HKB.out _).mono ?_; rintro e w' ⟨rfl, rfl⟩)
        refine HR.out.mono ?_
        rintro e w3 ⟨rfl, hb⟩
        have HO3 := Aside0.mk (Kd.R_below HI.out.o hb)
        have HB3 := Aside0.mk (below_step HI.out.b hb)
        clear hb
        go_wp2_with (first
          | ((with_reducible refine gate_dst (N := 40) rfl ?_); refine wpList_sum1 rfl (.tmp 39) rfl D rfl HD.out.lenC ?_)
          | ((with_reducible refine gate_builtin (b := .append) (xs := #[.tmp 35, .tmp 40]) rfl ?_); at_builtin; refine Kd.R_append KS (w0 := w) w.heap.size rfl (.tmp 35) (.tmp 40) 52 24 (.agg Z32) 32 rfl Try.underlying52 info_sums rfl (by decide) (by decide) _ acc _ D (fun _ => True) (fun _ => False) rfl rfl (HD.out.m _ _) (fun _ h => h.elim) (fun _ _ => trivial) HO3.out HB3.out HB3.out.size (by have := HI.out.s; omega) ?_; intro v1 w5 ho hb hg hat; have HO5 := Aside0.mk ho; have HB5 := Aside0.mk hb; clear ho hb hg hat))
        have HF := Aside0.mk (PathI.right HI.out H2.out (by rw [HK.out]; exact HIK.out) (by rw [HK.out]; exact HO5.out) HB5.out)
        rw [HK.out] at HF
        go_roundw
        case rel => exact ⟨_, _, _, _, _, _, rfl, congrArg (Value.int IntKind.i64) (by have := HIK.out; omega), HF.out⟩
        case measure => have h1 := HKL.out; have h2 := HKP.out; show n - k < n; omega
    · have h1 : n = 1 := by have := HI.out.hi; omega
      subst h1
      have HE := Aside0.mk (show acc.reverse = pathT l0 i0 from by
        have h := HI.out.e
        rw [pathT, dif_pos (by rw [HI.out.len]; exact Nat.le_refl _), List.reverse_nil, List.append_nil] at h
        rw [h, List.reverse_reverse])
      have HAL := Aside0.mk (show acc.length ≤ 1000000 from by have := HI.out.s; omega)
      go_wp2_with (fail)
      refine (rev_c w W w.heap.size _ acc HAL.out HI.out.o HI.out.b).mono ?_
      rintro e w3 ⟨rfl, ho, hb⟩
      rw [HE.out] at ho
      have HO3 := Aside0.mk ho
      have HB3 := Aside0.mk hb
      clear ho hb
      go_wp2_with (fail)
      go_ret2
      exact ⟨_, rfl, HO3.out, HB3.out⟩
end Go.Proofs.Ytbebkogkeepfoaa.Tree
/- tree.Frontier walked. -/
namespace Go.Proofs.Ytbebkogkeepfoaa.Tree
set_option linter.unusedVariables false
set_option linter.unusedSimpArgs false
open Go.RowKit Go.Proofs.Ytbebkogkeepfoaa.Base Go.Proofs.Ytbebkogkeepfoaa.TlvPlain Go.Proofs.Ytbebkogkeepfoaa.ShaPlain Go.Proofs.Ytbebkogkeepfoaa.Sha Go.Proofs.Ytbebkogkeepfoaa.Com Go.Proofs.Ytbebkogkeepfoaa.Aid Go.Proofs.YtbebkogkeepfoaaW.PrintWords Go.Proofs.YtbebkogkeepfoaaW.PrintLast Go.Proofs.YtbebkogkeepfoaaW.PrintMore
structure FrontI (w : World) (l0 : List Sm) (l : List Sm) (n : Nat) (A : Option Addr) (c : Nat) (acc : List Sm) (v : Value) (W : World) : Prop where
  len : l.length = n
  r : Rs w A l
  hc : n ≤ c
  u : Lu l
  hm : n ≤ 1000000
  o : Os W w.heap.size v acc
  e : acc ++ frontT l = frontT l0
  b : Below w.heap.size w W
  s : acc.length + n ≤ 1000001
theorem log2_le {n : Nat} (h : n ≠ 0) : 2 ^ Nat.log2 n ≤ n := Nat.log2_self_le h
theorem FrontI.next {w W W' : World} {l0 l : List Sm} {n c k : Nat} {A : Option Addr} {acc : List Sm} {v v' : Value} (h : FrontI w l0 l n A c acc v W) (h0 : n ≠ 0) (hk : 2 ^ Nat.log2 n = k)
    (ho : Os W' w.heap.size v' (acc ++ [rootT (l.take k)])) (hb : Below w.heap.size w W') : FrontI w l0 (l.drop k) (n - k) (restA A c k) (c - k) (acc ++ [rootT (l.take k)]) v' W' := by
  have hl := h.len
  have hc := h.hc
  have hm := h.hm
  have hs := h.s
  have hlt := log2_le h0
  have hp : 0 < 2 ^ Nat.log2 n := Nat.pow_pos (by decide)
  rw [hk] at hlt hp
  refine ⟨by rw [List.length_drop]; omega, Rs.drop h.r (by omega) (by omega), by omega, h.u.drop _, by omega, ho, ?_, hb, by rw [List.length_append, List.length_singleton]; omega⟩
  have he := h.e
  rw [frontT, dif_neg (by omega), hl, hk] at he
  rw [List.append_assoc]
  exact he
abbrev RetV (w : World) (l : List Sm) : Ending → World → Prop := fun e w' => ∃ v, e = .returned v ∧ Os w' w.heap.size v l ∧ Below w.heap.size w w'
set_option maxHeartbeats 4000000 in
set_option maxRecDepth 100000 in
theorem front_c (l0 : List Sm) (n0 : Nat) (hl : l0.length = n0) (hm : n0 ≤ 1000000) (hu : Lu l0) (A0 : Option Addr) (c0 : Nat) (hc : n0 ≤ c0) (w : World) (hr : Rs w A0 l0) :
    Calls Try.prog 44 #[.slice A0 n0 c0] w (RetV w (frontT l0)) := by
  have H0 := Aside0.mk (show FrontI w l0 l0 n0 A0 c0 [] (.slice none 0 0) w from ⟨hl, hr, hc, hu, hm, Kd.R_nil _ _ _ _ _, rfl, Below.refl _ _, by simp; omega⟩)
  unfold RetV
  clear hl hm hu hc hr
  go_enter Try.func44, Try.ntmps44
  go_wp2_with (fail)
  go_loopw [0, 3, 4] (fun x v _ wx => ∃ (l : List Sm) (n : Nat) (A : Option Addr) (c : Nat) (acc : List Sm), x = .slice A n c ∧ FrontI w l0 l n A c acc v wx) (fun x _ _ _ => lenV x)
  case atStart => exact ⟨l0, n0, A0, c0, [], rfl, H0.out⟩
  case round =>
    clear H0
    obtain ⟨l, n, A, c, acc, rfl, hinv⟩ := hrel
    have HI := Aside0.mk hinv
    clear hinv
    obtain ⟨W, hwy⟩ : ∃ wy, wy = wr := ⟨_, rfl⟩
    subst hwy
    by_cases h0 : n ≠ 0
    · have HM := Aside0.mk HI.out.hm
      have hlog := bitLen_log n h0 (by have := HM.out; omega)
      have hkl := log2_le h0
      have hp : 0 < 2 ^ Nat.log2 n := Nat.pow_pos (by decide)
      have hlt := log_lt (n := n) (e := 62) h0 (by have := HM.out; have : (2 : Nat) ^ 62 = 4611686018427387904 := by decide
                                                   omega)
      have e3 := wrap_pow (Nat.log2 n) hlt
      have HC := Aside0.mk (fun W => len_c (n : Int) W (by omega) (by have := HM.out; omega))
      rw [Int.toNat_natCast, hlog] at HC
      obtain ⟨k, hk⟩ : ∃ k, 2 ^ Nat.log2 n = k := ⟨_, rfl⟩
      have HK := Aside0.mk hk
      rw [hk] at e3 hkl hp
      obtain ⟨L, hL⟩ : ∃ L, Nat.log2 n = L := ⟨_, rfl⟩
      rw [hL] at e3 HC hlt
      have HKL := Aside0.mk hkl
      have HKP := Aside0.mk hp
      have H0 := Aside0.mk h0
      have HC1 := Aside0.mk (cut_a A n c k (by omega) HI.out.hc)
      have HC2 := Aside0.mk (cut_b A n c k (by omega))
      have d1 : decide (0 < (n : Int)) = true := decide_eq_true (by omega)
      have d2 : decide (0 < n) = true := decide_eq_true (by omega)
      have q1 : (n : Int) ≤ 1000000 := by have := HM.out; omega
      obtain ⟨D, hD⟩ := sumC (rootT (l.take k)) (rootT_len _)
      have HR := Aside0.mk (root_c k (l.take k) (by rw [List.length_take, HI.out.len]; omega) (by have := HI.out.hm; omega) A c W (Rs.take (Kd.C_below HI.out.r HI.out.b) (by rw [HI.out.len]; omega)) (by have := HI.out.hc; omega) (HI.out.u.take _))
      unfold Ret at HR
      rw [hD.v] at HR
      have HD := Aside0.mk hD
      clear hD hkl hp h0 hk hL hlog
      have hq1 := HC1.out
      have hq2 := HC2.out
      go_wp2_with (go_at_call 66; refine (HC.out _).mono ?_; rintro e w' ⟨rfl, rfl⟩)
      refine HR.out.mono ?_
      rintro e w3 ⟨rfl, hb⟩
      have HO3 := Aside0.mk (Kd.R_below HI.out.o hb)
      have HB3 := Aside0.mk (below_step HI.out.b hb)
      clear hb
      go_wp2_with (first
        | ((with_reducible refine gate_dst (N := 19) rfl ?_); refine wpList_sum1 rfl (.tmp 18) rfl D rfl HD.out.lenC ?_)
        | ((with_reducible refine gate_builtin (b := .append) (xs := #[.tmp 14, .tmp 19]) rfl ?_); at_builtin; refine Kd.R_append KS (w0 := w) w.heap.size rfl (.tmp 14) (.tmp 19) 52 24 (.agg Z32) 32 rfl Try.underlying52 info_sums rfl (by decide) (by decide) _ acc _ D (fun _ => True) (fun _ => False) rfl rfl (HD.out.m _ _) (fun _ h => h.elim) (fun _ _ => trivial) HO3.out HB3.out HB3.out.size (by have := HI.out.s; omega) ?_; intro v1 w5 ho hb hg hat; have HO5 := Aside0.mk ho; have HB5 := Aside0.mk hb; clear ho hb hg hat))
      have HF := Aside0.mk (FrontI.next HI.out H0.out HK.out HO5.out HB5.out)
      go_roundw
      case rel => exact ⟨_, _, _, _, _, rfl, HF.out⟩
      case measure => have h1 := HKL.out; have h2 := HKP.out; show n - k < n; omega
    · have h1 : n = 0 := by omega
      subst h1
      have HE := Aside0.mk (show acc = frontT l0 from by
        have h := HI.out.e
        rw [List.length_eq_zero_iff.1 HI.out.len, frontT_nil, List.append_nil] at h
        exact h)
      go_wp2_with (fail)
      go_ret
      exact ⟨_, rfl, by rw [← HE.out]; exact HI.out.o, HI.out.b⟩
end Go.Proofs.Ytbebkogkeepfoaa.Tree
/- tree.right walked. -/
namespace Go.Proofs.Ytbebkogkeepfoaa.Tree
set_option linter.unusedVariables false
set_option linter.unusedSimpArgs false
open Go.RowKit Go.Proofs.Ytbebkogkeepfoaa.Base Go.Proofs.YtbebkogkeepfoaaW.PrintWords Go.Proofs.YtbebkogkeepfoaaW.PrintLast Go.Proofs.YtbebkogkeepfoaaW.PrintMore
/-- Whether so many sums may be the frontier of n. -/
def rightB (m : Nat) (n : Int) : Bool := decide (0 ≤ n ∧ n ≤ 1048576 ∧ m = ones n.toNat)
theorem rightB_yes {m : Nat} {n : Int} (h : rightB m n = true) : 0 ≤ n ∧ n ≤ 1048576 ∧ m = ones n.toNat := of_decide_eq_true h
set_option maxHeartbeats 4000000 in
set_option maxRecDepth 100000 in
theorem right_c (A : Option Addr) (m c : Nat) (n : Int) (w : World) :
    Calls Try.prog 62 #[.slice A m c, .int .i64 n] w fun e w' => e = .returned (.bool (rightB m n)) ∧ w' = w := by
  by_cases h1 : 0 ≤ n
  · by_cases h2 : n ≤ 1048576
    · obtain ⟨k, rfl⟩ : ∃ k : Nat, (k : Int) = n := ⟨n.toNat, by omega⟩
      have HC := Aside0.mk (fun W => onesCount_c k W (by omega))
      obtain ⟨b, hb⟩ : ∃ b, rightB m (k : Int) = b := ⟨_, rfl⟩
      have hb0 : ((m : Int) == ((ones k : Nat) : Int)) = b := by
        rw [← hb, rightB, Int.toNat_natCast, Bool.eq_iff_iff, beq_iff_eq, decide_eq_true_eq]
        omega
      have d1 : decide ((k : Int) ≤ 1048576) = true := decide_eq_true h2
      rw [hb]
      clear hb
      go_enter Try.func62, Try.ntmps62
      go_wp2_with (go_at_call 72; refine (HC.out _).mono ?_; rintro e w' ⟨rfl, rfl⟩)
      go_ret
      exact ⟨rfl, rfl⟩
    · have d0 : decide (0 ≤ n) = true := decide_eq_true h1
      have d1 : decide (n ≤ 1048576) = false := decide_eq_false h2
      rw [show rightB m n = false from decide_eq_false (fun h => h2 h.2.1)]
      clear h1 h2
      go_enter Try.func62, Try.ntmps62
      go_wp2_with (fail)
      go_ret
      exact ⟨rfl, rfl⟩
  · have d0 : decide (0 ≤ n) = false := decide_eq_false h1
    rw [show rightB m n = false from decide_eq_false (fun h => h1 h.1)]
    clear h1
    go_enter Try.func62, Try.ntmps62
    go_wp2_with (fail)
    go_ret
    exact ⟨rfl, rfl⟩
end Go.Proofs.Ytbebkogkeepfoaa.Tree
/- tree.Fold walked. -/
namespace Go.Proofs.Ytbebkogkeepfoaa.Tree
set_option linter.unusedVariables false
set_option linter.unusedSimpArgs false
open Go.RowKit Go.Proofs.Ytbebkogkeepfoaa.Base Go.Proofs.Ytbebkogkeepfoaa.TlvPlain Go.Proofs.Ytbebkogkeepfoaa.ShaPlain Go.Proofs.Ytbebkogkeepfoaa.Sha Go.Proofs.Ytbebkogkeepfoaa.Com Go.Proofs.Ytbebkogkeepfoaa.Aid Go.Proofs.YtbebkogkeepfoaaW.PrintWords Go.Proofs.YtbebkogkeepfoaaW.PrintLast Go.Proofs.YtbebkogkeepfoaaW.PrintMore
theorem foldF_len : ∀ f : List Sm, Lu f → (foldF f).length = 32
  | [], _ => Z_len
  | [a], h => (h a (by simp)).1
  | a :: b :: r, _ => nodeH_len _ _
theorem foldF_u8 : ∀ f : List Sm, Lu f → U8' (foldF f)
  | [], _ => Z_u8
  | [a], h => (h a (by simp)).2
  | a :: b :: r, _ => nodeH_u8 _ _
theorem foldF_drop (f : List Sm) (k : Nat) (hk : k + 1 < f.length) : foldF (f.drop k) = nodeH (f[k]'(by omega)) (foldF (f.drop (k + 1))) := by
  rw [List.drop_eq_getElem_cons (show k < f.length by omega), List.drop_eq_getElem_cons (show k + 1 < f.length by omega)]
  rfl
set_option maxHeartbeats 4000000 in
set_option maxRecDepth 100000 in
/-- What is handed back at once: nothing, whatever the flag says. -/
theorem fold_no (A : Option Addr) (m c : Nat) (n : Int) (h : rightB m n = false) (w : World) :
    Calls Try.prog 35 #[.slice A m c, .int .i64 n] w (Ret2 w Z false) := by
  have HZ := Aside0.mk (show (w.alloc (.cells Z32 24)).heap[w.heap.size]? = some (.cells Z32 24 (0, 0)) from blk_new _ _)
  have HB := Aside0.mk (below_alloc (Below.refl w.heap.size w) (.cells Z32 24))
  have HIF := Aside0.mk (show (Try.prog.info? 24).map (·.size) = some Z32.size from info_32)
  have HON := Aside0.mk (show Z32.all (·.oneCell') = true from nums_one _ _)
  have HR := Aside0.mk (right_c A m c n)
  rw [h] at HR
  show Calls _ _ _ _ (fun e w' => e = .returned (.tuple #[.agg Z32, .bool false]) ∧ Below w.heap.size w w')
  clear h
  go_enter Try.func35, Try.ntmps35
  go_wp2_with (first
    | (go_at_call 62; refine (HR.out _).mono ?_; rintro e w' ⟨rfl, rfl⟩)
    | ((with_reducible refine gate_store (t := 24) (p := 4) (v := .tmp 12) rfl ?_); refine wpList_store_row rfl 24 (.tmp 4) (.tmp 12) rfl w.heap.size Z32 rfl rfl 24 Z32 HZ.out HIF.out rfl HON.out ?_))
  have HSR := setRow_heap (w.alloc (.cells Z32 24)) w.heap.size Z32 Z32 _ _ HZ.out
  refine bodyPost_ret (results_ct rfl _ _ w.heap.size 24 Z32 (0, 0) _ rfl HSR Try.underlying24 rfl HIF.out) rfl ?_
  exact ⟨rfl, below_setRow HB.out (Nat.le_refl _) Z32⟩
set_option maxHeartbeats 4000000 in
set_option maxRecDepth 100000 in
theorem fold_zero (A : Option Addr) (m c : Nat) (h : rightB m 0 = true) (w : World) :
    Calls Try.prog 35 #[.slice A m c, .int .i64 0] w (Ret2 w Z true) := by
  have HZ := Aside0.mk (show (w.alloc (.cells Z32 24)).heap[w.heap.size]? = some (.cells Z32 24 (0, 0)) from blk_new _ _)
  have HB := Aside0.mk (below_alloc (Below.refl w.heap.size w) (.cells Z32 24))
  have HIF := Aside0.mk (show (Try.prog.info? 24).map (·.size) = some Z32.size from info_32)
  have HON := Aside0.mk (show Z32.all (·.oneCell') = true from nums_one _ _)
  have HR := Aside0.mk (right_c A m c 0)
  rw [h] at HR
  show Calls _ _ _ _ (fun e w' => e = .returned (.tuple #[.agg Z32, .bool true]) ∧ Below w.heap.size w w')
  clear h
  go_enter Try.func35, Try.ntmps35
  go_wp2_with (first
    | (go_at_call 62; refine (HR.out _).mono ?_; rintro e w' ⟨rfl, rfl⟩)
    | ((with_reducible refine gate_store (t := 24) (p := 4) (v := .tmp 15) rfl ?_); refine wpList_store_row rfl 24 (.tmp 4) (.tmp 15) rfl w.heap.size Z32 rfl rfl 24 Z32 HZ.out HIF.out rfl HON.out ?_))
  have HSR := setRow_heap (w.alloc (.cells Z32 24)) w.heap.size Z32 Z32 _ _ HZ.out
  refine bodyPost_ret (results_ct rfl _ _ w.heap.size 24 Z32 (0, 0) _ rfl HSR Try.underlying24 rfl HIF.out) rfl ?_
  exact ⟨rfl, below_setRow HB.out (Nat.le_refl _) Z32⟩
/-- The world in the rounds: the result's cells, and the sum so far. -/
structure FoldI (w : World) (d : Sm) (W : World) : Prop where
  z : W.heap[w.heap.size]? = some (.cells Z32 24 (0, 0))
  d : W.heap[w.heap.size + 1]? = some (.cells (nums .u8 d).toArray 24 (0, 0))
  b : Below w.heap.size w W
set_option maxHeartbeats 4000000 in
set_option maxRecDepth 100000 in
theorem fold_yes (f : List Sm) (m : Nat) (hl : f.length = m) (hu : Lu f) (hm : m ≤ 1000) (h1 : 0 < m) (A : Option Addr) (c : Nat) (hc : m ≤ c) (n : Int) (hn : n ≠ 0) (h : rightB m n = true) (w : World) (hr : Rs w A f) :
    Calls Try.prog 35 #[.slice A m c, .int .i64 n] w (Ret2 w (foldF f) true) := by
  have HZ := Aside0.mk (show ((w.alloc (.cells Z32 24)).alloc (.cells Z32 24)).heap[w.heap.size]? = some (.cells Z32 24 (0, 0)) from blk_alloc (blk_new _ _) _)
  have HY := Aside0.mk (show ((w.alloc (.cells Z32 24)).alloc (.cells Z32 24)).heap[w.heap.size + 1]? = some (.cells Z32 24 (0, 0)) from second_new' _ _ _)
  have HB0 := Aside0.mk (below_alloc (Below.refl w.heap.size w) (.cells Z32 24))
  have HB := Aside0.mk (below_alloc HB0.out (.cells Z32 24))
  have HR := Aside0.mk (right_c A m c n)
  rw [h] at HR
  obtain ⟨ad, rfl, hat, hal⟩ := rs_at hr (m - 1) (by omega)
  obtain ⟨x, hx⟩ : ∃ x, f[m - 1]'(by omega) = x := ⟨_, rfl⟩
  rw [hx] at hat hal
  have HXF := Aside0.mk (show foldF (f.drop (m - 1)) = x from by
    rw [List.drop_eq_getElem_cons (show m - 1 < f.length by omega), List.drop_of_length_le (by omega), hx]; rfl)
  obtain ⟨X, hX⟩ := sumF x hal
  have HXI := Aside0.mk hX.infoL
  have HXJ := Aside0.mk hX.info
  have HXZ := Aside0.mk hX.zs
  have HXO := Aside0.mk hX.one
  have HXE := Aside0.mk hX.eq
  have HAT := Aside0.mk (show AtC ((w.alloc (.cells Z32 24))) (ad.add ((m - 1) * 32)) (nums .u8 x) from hat.below HB0.out)
  have HF := Aside0.mk (And.intro hl (And.intro hu (And.intro hm h1)))
  have HRS := Aside0.mk hr
  have q1 : (m : Int) ≤ 1000 := by omega
  have q2 : (1 : Int) ≤ (m : Int) := by omega
  have q3 : (n == 0) = false := by simp [hn]
  have q4 : (0 : Int) ≤ (m : Int) - 1 := by omega
  have q5 : (m : Int) - 1 < (m : Int) := by omega
  have q6 : ((m : Int) - 1).toNat = m - 1 := by omega
  show Calls _ _ _ _ (fun e w' => e = .returned (.tuple #[sumV (foldF f), .bool true]) ∧ Below w.heap.size w w')
  clear hl hu hm h1 hc hn h hr hx hat hal hX
  go_enter Try.func35, Try.ntmps35
  go_wp2_with (first
    | (go_at_call 62; refine (HR.out _).mono ?_; rintro e w' ⟨rfl, rfl⟩)
    | ((with_reducible refine gate_dst (N := 21) rfl ?_); refine wpList_load_at rfl 24 (.tmp 20) rfl _ rfl (nums .u8 x) _ HAT.out Try.underlying24 rfl HXI.out ?_; rw [HXE.out])
    | ((with_reducible refine gate_store (t := 24) (p := 6) (v := .tmp 21) rfl ?_); refine wpList_store_row rfl 24 (.tmp 6) (.tmp 21) rfl (w.heap.size + 1) X rfl rfl 24 Z32 HY.out HXJ.out HXZ.out HXO.out ?_))
  have H0 := Aside0.mk (show FoldI w (foldF (f.drop (m - 1))) (((w.alloc (.cells Z32 24)).alloc (.cells Z32 24)).setRow (w.heap.size + 1) X) from by
    rw [HXF.out]
    refine ⟨(setRow_other _ _ _ X (by omega)).trans HZ.out, ?_, below_setRow HB.out (Nat.le_succ _) X⟩
    rw [HXE.out]
    exact setRow_heap _ _ Z32 X _ _ HY.out)
  clear HZ HY HB0 HB HAT HXF HXI HXJ HXZ HXO HXE
  go_loopw [7] (fun i wx => ∃ k : Nat, k + 1 ≤ m ∧ i = .int .i64 ((k : Int) - 1) ∧ FoldI w (foldF (f.drop k)) wx) (fun i _ => (intOf i + 1).toNat)
  case atStart => exact ⟨m - 1, by have := HF.out.2.2.2; omega, congrArg (Value.int IntKind.i64) (by have := HF.out.2.2.2; omega), H0.out⟩
  case round =>
    clear H0
    obtain ⟨k, hk, rfl, hinv⟩ := hrel
    have HI := Aside0.mk hinv
    clear hinv
    obtain ⟨W, hwy⟩ : ∃ wy, wy = wr := ⟨_, rfl⟩
    subst hwy
    cases k with
    | zero =>
      rw [show ((0 : Nat) : Int) - 1 = -1 by omega]
      obtain ⟨d, hd⟩ : ∃ d, foldF (f.drop 0) = d := ⟨_, rfl⟩
      have hdl : d.length = 32 := by rw [← hd]; exact foldF_len _ HF.out.2.1
      rw [hd] at HI
      rw [List.drop_zero] at hd
      have HDE := Aside0.mk hd
      obtain ⟨D, hD⟩ := sumF d hdl
      have HD := Aside0.mk hD
      have HZ := Aside0.mk HI.out.z
      have HY := Aside0.mk (show W.heap[w.heap.size + 1]? = some (.cells D 24 (0, 0)) from by rw [← hD.eq]; exact HI.out.d)
      have HB := Aside0.mk HI.out.b
      have HIF := Aside0.mk hD.info
      clear hD hd hdl hk
      go_wp2_with (first
        | ((with_reducible refine gate_dst (N := 35) rfl ?_); refine wpList_load_row rfl 24 (.tmp 6) rfl (w.heap.size + 1) rfl 24 D (0, 0) _ (by exact HY.out) Try.underlying24 rfl HIF.out ?_)
        | ((with_reducible refine gate_store (t := 24) (p := 4) (v := .tmp 35) rfl ?_); refine wpList_store_row rfl 24 (.tmp 4) (.tmp 35) rfl w.heap.size D rfl rfl 24 Z32 HZ.out HIF.out HD.out.zs HD.out.one ?_))
      have HSR := setRow_heap W w.heap.size Z32 D _ _ HZ.out
      refine bodyPost_ret (results_ct rfl _ _ w.heap.size 24 D (0, 0) _ rfl HSR Try.underlying24 rfl HIF.out) rfl ?_
      exact ⟨by rw [HDE.out, HD.out.v]; rfl, below_setRow HB.out (Nat.le_refl _) D⟩
    | succ j =>
      rw [show ((j + 1 : Nat) : Int) - 1 = (j : Int) by omega]
      have hFD := foldF_drop f j (by have := HF.out.1; omega)
      obtain ⟨ad', e, hat, hal⟩ := rs_at HRS.out j (by have := HF.out.1; omega)
      injection e with e
      subst e
      have hxu := (HF.out.2.1 _ (List.getElem_mem (show j < f.length by have := HF.out.1; omega))).2
      obtain ⟨x, hx⟩ : ∃ x, f[j]'(by have := HF.out.1; omega) = x := ⟨_, rfl⟩
      rw [hx] at hat hal hxu hFD
      obtain ⟨d, hd⟩ : ∃ d, foldF (f.drop (j + 1)) = d := ⟨_, rfl⟩
      have hul : Lu (f.drop (j + 1)) := HF.out.2.1.drop _
      have hdl : d.length = 32 := by rw [← hd]; exact foldF_len _ hul
      have hdu : U8' d := by rw [← hd]; exact foldF_u8 _ hul
      rw [hd] at HI hFD
      obtain ⟨X, hX⟩ := sumF x hal
      obtain ⟨D, hD⟩ := sumF d hdl
      obtain ⟨E, hE⟩ := sumF (nodeH x d) (nodeH_len _ _)
      have HT := Aside0.mk (two_c x d hal hdl hxu hdu)
      unfold Ret at HT
      rw [hX.v, hD.v, hE.v] at HT
      have HXI := Aside0.mk hX.infoL
      have HXE := Aside0.mk hX.eq
      have HDI := Aside0.mk hD.info
      have HEI := Aside0.mk hE.info
      have HEE := Aside0.mk hE.eq
      have HEO := Aside0.mk hE.one
      have HEZ := Aside0.mk (show D.size = E.size from by rw [← hD.zs, ← hE.zs])
      have HAT := Aside0.mk (show AtC W (ad.add (j * 32)) (nums .u8 x) from hat.below HI.out.b)
      have HATw := Aside0.mk hat
      have HZ := Aside0.mk HI.out.z
      have HY := Aside0.mk (show W.drew.heap[w.heap.size + 1]? = some (.cells D 24 (0, 0)) from by rw [← hD.eq]; exact HI.out.d)
      have HB := Aside0.mk HI.out.b
      have HFD := Aside0.mk hFD
      have HK := Aside0.mk hk
      have p1 : (0 : Int) ≤ (j : Int) := by omega
      have p2 : (j : Int) < (m : Int) := by omega
      have p3 : decide ((0 : Int) ≤ (j : Int)) = true := decide_eq_true p1
      have p4 : (j : Int) ≤ 1000 := by omega
      have hu24 := Try.underlying24
      clear hX hD hE hx hd hul hdl hdu hat hal hxu hFD hk
      go_wp2_with (fail)
      refine wp_region_held_drew (S := fun w' => AtC w' (ad.add (j * 32)) (nums .u8 x)) (by kernel_rfl) HAT.out (fun hHeld => ?_)
      (refine wpAnyH_take (i := 0) (v := ?_) rfl (by kernel_rfl) (by kernel_rfl) (by kernel_rfl) (fun _ _ _ h => h) (Or.inl ⟨by rfl, ?_⟩) (by assumption) ?_; (case' refine_2 => (intro w hSw; go_simp; try with_reducible rfl)); (try simp only [Act.put, List.getElem_toArray, List.getElem_cons_zero, List.getElem_cons_succ, List.setIfInBounds_toArray, List.set_cons_zero, List.set_cons_succ]))
      (refine wpAnyH_take (i := 1) (v := ?_) rfl (by kernel_rfl) (by kernel_rfl) (by kernel_rfl) (fun _ _ _ h => h) (Or.inl ⟨by rfl, ?_⟩) (by assumption) ?_; (case' refine_2 => (intro w hSw; go_simp; try with_reducible rfl)); (try simp only [Act.put, List.getElem_toArray, List.getElem_cons_zero, List.getElem_cons_succ, List.setIfInBounds_toArray, List.set_cons_zero, List.set_cons_succ]))
      (refine wpAnyH_take (i := 2) (v := ?_) rfl (by kernel_rfl) (by kernel_rfl) (by kernel_rfl) (fun _ _ _ h => h) (Or.inl ⟨by rfl, ?_⟩) (by assumption) ?_; (case' refine_2 => (intro w hSw; go_simp; try with_reducible rfl)); (try simp only [Act.put, List.getElem_toArray, List.getElem_cons_zero, List.getElem_cons_succ, List.setIfInBounds_toArray, List.set_cons_zero, List.set_cons_succ]))
      (refine wpAnyH_take (i := 3) rfl (by kernel_rfl) (by kernel_rfl) (by kernel_rfl) (fun _ _ _ h => h) (yieldsIf_load_at (by rfl) _ _ rfl (ad.add (j * 32)) rfl (nums .u8 x) _ (fun _ h => h) (by assumption) rfl HXI.out) (by assumption) ?_; (try simp only [Act.put, List.getElem_toArray, List.getElem_cons_zero, List.getElem_cons_succ, List.setIfInBounds_toArray, List.set_cons_zero, List.set_cons_succ]))
      rw [HXE.out]
      refine wpAnyH_ready (rs := [4]) (by kernel_rfl) (by simp) (AllReadyH.cons rfl (fun K hK => ?_) AllReadyH.nil)
      rw [if_pos (by rfl)]
      refine wp_load_row 24 (.tmp 6) rfl (w.heap.size + 1) rfl 24 D (0, 0) _ HY.out hu24 rfl HDI.out ?_
      (refine Shut.out hK _ _ HAT.out (fun hHeld => ?_); clear hK K; (try simp only [Act.put, List.getElem_toArray, List.getElem_cons_zero, List.getElem_cons_succ, List.setIfInBounds_toArray, List.set_cons_zero, List.set_cons_succ]))
      (refine wpAnyH_ready (rs := [5]) (by kernel_rfl) (by simp) (AllReadyH.cons rfl (fun K hK => ?_) AllReadyH.nil); go_simp)
      refine (HT.out _).mono ?_
      rintro e w3 ⟨rfl, hb⟩
      have hbd := below_drew_of hb
      have HZ3 := Aside0.mk (blk_below HZ.out hbd)
      have HY3 := Aside0.mk (blk_below HY.out hb)
      have HB3 := Aside0.mk (below_step HB.out hbd)
      have HAT3 := Aside0.mk (HAT.out.below hbd)
      have HAT4 := Aside0.mk (show AtC (w3.setRow (w.heap.size + 1) E) (ad.add (j * 32)) (nums .u8 x) from (HATw.out.below (below_setRow HB3.out (Nat.le_succ _) E)))
      clear hb hbd
      (refine Shut.out hK _ _ HAT3.out (fun hHeld => ?_); clear hK K; (try simp only [Act.put, List.getElem_toArray, List.getElem_cons_zero, List.getElem_cons_succ, List.setIfInBounds_toArray, List.set_cons_zero, List.set_cons_succ]))
      refine wpAnyH_ready (rs := [6]) (by kernel_rfl) (by simp) (AllReadyH.cons rfl (fun K hK => ?_) AllReadyH.nil)
      rw [if_pos (by rfl)]
      refine wp_store_row 24 (.tmp 6) (.tmp 34) rfl (w.heap.size + 1) E rfl rfl 24 D HY3.out HEI.out HEZ.out HEO.out ?_
      (refine Shut.out hK _ _ HAT4.out (fun hHeld => ?_); clear hK K; (try simp only [Act.put, List.getElem_toArray, List.getElem_cons_zero, List.getElem_cons_succ, List.setIfInBounds_toArray, List.set_cons_zero, List.set_cons_succ]))
      refine wpAnyH_done (by kernel_rfl) ?_ _
      have HF2 := Aside0.mk (show FoldI w (foldF (f.drop j)) (w3.setRow (w.heap.size + 1) E) from by
        rw [HFD.out]
        refine ⟨(setRow_other _ _ _ E (by omega)).trans HZ3.out, ?_, below_setRow HB3.out (Nat.le_succ _) E⟩
        rw [HEE.out]
        exact setRow_heap _ _ D E _ _ HY3.out)
      go_wp2_with (fail)
      go_roundw
      case rel => exact ⟨j, by have := HK.out; omega, rfl, HF2.out⟩
      case measure => simp [intOf]
end Go.Proofs.Ytbebkogkeepfoaa.Tree
/- slices.Clone at sums, tree.Grow walked. -/
namespace Go.Proofs.Ytbebkogkeepfoaa.Tree
set_option linter.unusedVariables false
set_option linter.unusedSimpArgs false
open Go.RowKit Go.Proofs.Ytbebkogkeepfoaa.Base Go.Proofs.Ytbebkogkeepfoaa.TlvPlain Go.Proofs.Ytbebkogkeepfoaa.ShaPlain Go.Proofs.Ytbebkogkeepfoaa.Sha Go.Proofs.Ytbebkogkeepfoaa.Com Go.Proofs.Ytbebkogkeepfoaa.Aid Go.Proofs.YtbebkogkeepfoaaW.PrintWords Go.Proofs.YtbebkogkeepfoaaW.PrintLast Go.Proofs.YtbebkogkeepfoaaW.PrintMore
theorem fold_c (f : List Sm) (m : Nat) (hl : f.length = m) (hu : Lu f) (hm : m ≤ 1000) (A : Option Addr) (c : Nat) (hc : m ≤ c) (n : Int) (w : World) (hr : Rs w A f) :
    Calls Try.prog 35 #[.slice A m c, .int .i64 n] w (Ret2 w (if rightB m n = true then foldF f else Z) (rightB m n)) := by
  cases h : rightB m n with
  | false =>
    rw [if_neg Bool.false_ne_true]
    exact fold_no A m c n h w
  | true =>
    rw [if_pos rfl]
    obtain ⟨h1, h2, h3⟩ := rightB_yes h
    by_cases hn : n = 0
    · subst hn
      rw [show (0 : Int).toNat = 0 from rfl, ones_zero] at h3
      subst h3
      rw [List.length_eq_zero_iff.1 hl]
      exact fold_zero A 0 c h w
    · obtain ⟨e, r, h4, h5, _⟩ := split_log n.toNat (by omega)
      rw [h4, ones_add e r h5] at h3
      exact fold_yes f m hl hu hm (by omega) A c hc n hn h w hr
/-- A row stays where a block elder than it is written. -/
theorem os_elder {W W' : World} {b g : Nat} {v : Value} {l : List Sm} (h : Os W b v l) (hg : g < b) (hk : ∀ k, k ≠ g → W'.heap[k]? = W.heap[k]?) : Os W' b v l :=
  Kd.R_mono (Kd.R_move (Kd.R_bound h) (fun k hk' => hk k (by have := hk'.2.1; omega))) (fun _ _ => trivial)
set_option maxHeartbeats 4000000 in
set_option maxRecDepth 100000 in
theorem clone_c (f : List Sm) (m : Nat) (hl : f.length = m) (hm : m ≤ 1000) (A : Option Addr) (c : Nat) (hc : m ≤ c) (w : World) (hr : Rs w A f) :
    Calls Try.prog 64 #[.slice A m c] w (RetV w f) := by
  unfold RetV
  have hq := fun (n c : Nat) => Lib.run_eql_slice_nil (P := Try.prog) w 52 24 A n c 0 0 Try.underlying52
  cases A with
  | none =>
    have hm0 : m = 0 := by
      rcases Nat.eq_zero_or_pos m with h | h
      · exact h
      · obtain ⟨ad, h1, _⟩ := rs_at hr 0 (by omega)
        cases h1
    subst hm0
    have hf : f = [] := List.length_eq_zero_iff.1 hl
    subst hf
    clear hl hm hc hr
    go_enter Try.func64, Try.ntmps64
    go_wp2_with (fail)
    go_ret
    exact ⟨_, rfl, Kd.R_nil _ _ _ _ _, Below.refl _ _⟩
  | some ad =>
    have HR := Aside0.mk hr
    have HL := Aside0.mk hl
    have HM := Aside0.mk hm
    clear hl hm hc hr
    go_enter Try.func64, Try.ntmps64
    have HB := Aside0.mk (Below.refl w.heap.size w)
    go_wp2_with (first
      | ((with_reducible refine gate_dst (N := 5) rfl ?_); refine Kd.R_lit KS _ 24 ?hg (N := 5) ?hd (xs := ([] : List Sm)) (inner := []) (ok := fun _ => True) (okp := fun _ => True) ?hr ?hp (fun _ hk => hk) trivial (Below.refl _ _) (Nat.le_refl _) (by simp) ?_; (case hd => rfl); (case hg => rfl); (case hr => first | (go_simp; done) | (go_simp; rfl)); (case hp => exact (Reps.none _ _)); intro v255 w3 ho4 hb hg_ hnew_; clear hg_ hnew_; have n0_ := Aside0.mk (Kd.R_lower ho4 (below_size HB.out)); have n1_ := Aside0.mk (below_step HB.out hb); clear HB; have HO := n0_; have HB := n1_; clear n0_ n1_; clear hb ho4)
      | ((with_reducible refine gate_builtin (b := .append) (xs := #[.tmp 5, .tmp 6]) rfl ?_); at_builtin; refine Kd.R_append_rows KS (w0 := w) w.heap.size rfl (.tmp 5) (.tmp 6) 52 24 (.agg Z32) 32 rfl Try.underlying52 info_sums rfl (by decide) (by omega) v255 [] f _ m c (fun _ => True) (fun _ => False) rfl rfl HO.out (by have h := Kd.C_below HR.out HB.out; rw [HL.out] at h; exact h) (fun _ _ h => h) (fun _ h => h.elim) (fun _ _ => trivial) HB.out (below_size HB.out) (by have := HM.out; simp; omega) ?_; intro v258 w5 ho hb hg hat; have n0_ := Aside0.mk (hb); have n1_ := Aside0.mk (ho); clear HB; clear HO; have HB := n0_; have HO := n1_; clear n0_ n1_; clear ho hb hg hat))
    go_ret
    exact ⟨_, rfl, HO.out, HB.out⟩
/-- The flag's ways by which nothing grows. -/
theorem grow_no (A : Option Addr) (m c : Nat) (n : Int) (leaf : Sm) (hl : leaf.length = 32) (h : rightB m n = false ∨ n = 1048576) (w : World) :
    Calls Try.prog 37 #[.slice A m c, .int .i64 n, sumV leaf] w fun e w' => e = .returned (.tuple #[.slice none 0 0, .bool false]) ∧ Below w.heap.size w w' := by
  obtain ⟨L, hL⟩ := sumF leaf hl
  rw [hL.v]
  have HR := Aside0.mk (right_c A m c n)
  have HB := Aside0.mk (below_alloc (Below.refl w.heap.size w) (.cells L 24))
  cases hb : rightB m n with
  | false =>
    rw [hb] at HR
    clear h hb hL
    go_enter Try.func37, Try.ntmps37
    go_wp2_with (go_at_call 62; refine (HR.out _).mono ?_; rintro e w' ⟨rfl, rfl⟩)
    go_ret2
    exact ⟨rfl, HB.out⟩
  | true =>
    obtain rfl : n = 1048576 := h.resolve_left (by rw [hb]; simp)
    rw [hb] at HR
    clear h hb hL
    go_enter Try.func37, Try.ntmps37
    go_wp2_with (go_at_call 62; refine (HR.out _).mono ?_; rintro e w' ⟨rfl, rfl⟩)
    go_ret2
    exact ⟨rfl, HB.out⟩
/-- The world in the rounds: the sum so far in its block, the rest a row of one's own, younger than that block. -/
structure GrowI (w : World) (b g : Nat) (d : Sm) (F : List Sm) (N : Nat) (goal : List Sm) (v : Value) (W : World) : Prop where
  db : W.heap[g]? = some (.cells (nums .u8 d).toArray 24 (0, 0))
  o : Os W b v F
  g0 : w.heap.size ≤ g
  g1 : g < b
  bs : b ≤ W.heap.size
  bw : Below w.heap.size w W
  dl : d.length = 32
  du : U8' d
  u : Lu F
  c : F.length = ones N
  hm : N ≤ 1048576
  e : growT F N d = goal
  s : F.length ≤ 1000
set_option maxHeartbeats 4000000 in
set_option maxRecDepth 100000 in
theorem grow_c (f : List Sm) (m : Nat) (hl : f.length = m) (hu : Lu f) (hm : m ≤ 1000) (A : Option Addr) (c : Nat) (hc : m ≤ c) (n : Nat) (hn : n ≠ 1048576) (h : rightB m (n : Int) = true) (leaf : Sm) (hll : leaf.length = 32) (hlu : U8' leaf) (w : World) (hr : Rs w A f) :
    Calls Try.prog 37 #[.slice A m c, .int .i64 (n : Int), sumV leaf] w (RetO w (growT f n (leafH leaf)) true) := by
  unfold RetO
  have HR := Aside0.mk (right_c A m c (n : Int))
  rw [h] at HR
  obtain ⟨_, hn2, hn3⟩ := rightB_yes h
  obtain ⟨L, hL⟩ := sumF leaf hll
  obtain ⟨D, hD⟩ := sumF (leafH leaf) (leafH_len leaf)
  have HT := Aside0.mk (leaf_c leaf hll hlu)
  unfold Ret at HT
  rw [hL.v, hD.v] at HT
  rw [hL.v]
  have HG := Aside0.mk (show (w.alloc (.cells L 24)).heap[w.heap.size]? = some (.cells L 24 (0, 0)) from blk_new _ _)
  have HB := Aside0.mk (below_alloc (Below.refl w.heap.size w) (.cells L 24))
  have HLI := Aside0.mk hL.info
  have HDI := Aside0.mk hD.info
  have HDE := Aside0.mk hD.eq
  have HDZ := Aside0.mk hD.zs
  have HDO := Aside0.mk hD.one
  have HC := Aside0.mk (fun W hW => clone_c f m hl hm A c hc W (Kd.C_below hr hW))
  have HF := Aside0.mk (And.intro hl (And.intro hu (And.intro hm (And.intro hn2 hn3))))
  have d1 : ((n : Int) == 1048576) = false := by simp; omega
  have d2 : (n == 1048576) = false := by simp; omega
  clear hl hu hm hc hn h hll hlu hr hn2 hn3 hL hD
  go_enter Try.func37, Try.ntmps37
  go_wp2_with (first
    | (go_at_call 62; refine (HR.out _).mono ?_; rintro e w' ⟨rfl, rfl⟩)
    | ((with_reducible refine gate_dst (N := 19) rfl ?_); refine wpList_load_row rfl 24 (.tmp 5) rfl w.heap.size rfl 24 L (0, 0) _ (by exact HG.out) Try.underlying24 rfl HLI.out ?_))
  refine (HT.out _).mono ?_
  rintro e w3 ⟨rfl, hb⟩
  have HB3 := Aside0.mk (below_step HB.out hb)
  have HS3 := Aside0.mk (show w.heap.size + 1 ≤ w3.heap.size from by have h1 := hb.size; rw [show (w.alloc (.cells L 24)).heap.size = w.heap.size + 1 by simp] at h1; exact h1)
  clear hb
  obtain ⟨g, hg⟩ : ∃ g, w3.heap.size = g := ⟨_, rfl⟩
  have HGE := Aside0.mk (show w.heap.size ≤ g from by have := HS3.out; omega)
  have HY := Aside0.mk (show (w3.alloc (.cells Z32 24)).heap[g]? = some (.cells Z32 24 (0, 0)) from by rw [← hg]; exact blk_new _ _)
  have HB4 := Aside0.mk (show Below w.heap.size w ((w3.alloc (.cells Z32 24)).setRow g D) from below_setRow (below_alloc HB3.out _) HGE.out D)
  have HS4 := Aside0.mk (show ((w3.alloc (.cells Z32 24)).setRow g D).heap.size = g + 1 from by rw [size_setRow]; simp [hg])
  have HD4 := Aside0.mk (show ((w3.alloc (.cells Z32 24)).setRow g D).heap[g]? = some (.cells D 24 (0, 0)) from setRow_heap _ _ Z32 D _ _ HY.out)
  go_wp2_with ((with_reducible refine gate_store (t := 24) (p := 8) (v := .tmp 20) rfl ?_); refine wpList_store_row rfl 24 (.tmp 8) (.tmp 20) rfl g D rfl rfl 24 Z32 HY.out HDI.out HDZ.out HDO.out ?_)
  refine (HC.out _ HB4.out).mono ?_
  clear hg
  rintro e w5 ⟨v, rfl, ho, hb⟩
  have H0 := Aside0.mk (show GrowI w (g + 1) g (leafH leaf) f n (growT f n (leafH leaf)) v w5 from by
    obtain ⟨hl, hu, hm, hn2, hn3⟩ := HF.out
    rw [HS4.out] at ho hb
    rw [Int.toNat_natCast] at hn3
    refine ⟨?_, ho, HGE.out, Nat.lt_succ_self g, (by have h1 := hb.size; rw [HS4.out] at h1; exact h1), below_step HB4.out (by rw [HS4.out]; exact hb), leafH_len _, leafH_u8 _, hu, by rw [hl, hn3], by omega, rfl, by omega⟩
    rw [HDE.out]
    exact blk_below HD4.out (by rw [HS4.out]; exact hb))
  clear ho hb HD4 HB4 HS4 HY HB3 HS3 HG HB d1 d2
  go_wp2_with (fail)
  go_loopw [1, 9, 10] (fun x v _ wx => ∃ (N : Nat) (F : List Sm) (d : Sm), x = .int .i64 N ∧ GrowI w (g + 1) g d F N (growT f n (leafH leaf)) v wx) (fun x _ _ _ => (intOf x).toNat)
  case atStart => exact ⟨n, f, _, rfl, H0.out⟩
  case round =>
    clear H0
    obtain ⟨N, F, d, rfl, hinv⟩ := hrel
    have HI := Aside0.mk hinv
    clear hinv
    obtain ⟨W, hwy⟩ : ∃ wy, wy = wr := ⟨_, rfl⟩
    subst hwy
    have q1 : (N : Int) ≤ 1048576 := by have := HI.out.hm; omega
    have e1 := and_i64 N 1 (by omega) (by omega)
    rw [show ((1 : Nat) : Int) = 1 from rfl, Nat.and_one_is_mod] at e1
    obtain ⟨E, hE⟩ := sumF d HI.out.dl
    have HEI := Aside0.mk hE.info
    have HY := Aside0.mk (show W.heap[g]? = some (.cells E 24 (0, 0)) from by rw [← hE.eq]; exact HI.out.db)
    by_cases ho : N % 2 = 1
    · rw [ho] at e1
      have HN := Aside0.mk ho
      have hc := HI.out.c
      rw [ones_half, ho] at hc
      obtain ⟨k, hk⟩ : ∃ k, F.length = k + 1 := ⟨F.length - 1, by omega⟩
      obtain ⟨gr, cap, hv, hgr, hgs, _⟩ := Kd.R_form HI.out.o (by omega)
      rw [hk] at hv
      subst hv
      obtain ⟨hat, hal⟩ := os_at HI.out.o k (by omega)
      have hsp : F = F.take k ++ [F.getD k Z] := by
        rw [List.getD_eq_getElem?_getD, List.getElem?_eq_getElem (show k < F.length by omega), Option.getD_some, ← take_snoc F k (by omega), List.take_of_length_le (by omega)]
      have hxu : U8' (F.getD k Z) := by
        rw [List.getD_eq_getElem?_getD, List.getElem?_eq_getElem (show k < F.length by omega), Option.getD_some]
        exact (HI.out.u _ (List.getElem_mem _)).2
      obtain ⟨y, hy⟩ : ∃ y, F.getD k Z = y := ⟨_, rfl⟩
      rw [hy] at hat hal hsp hxu
      have HSP := Aside0.mk hsp
      obtain ⟨Y, hY⟩ := sumF y hal
      obtain ⟨G, hG⟩ := sumF (nodeH y d) (nodeH_len _ _)
      have HT2 := Aside0.mk (two_c y d hal HI.out.dl hxu HI.out.du)
      unfold Ret at HT2
      rw [hY.v, hE.v, hG.v] at HT2
      have HYI := Aside0.mk hY.infoL
      have HYE := Aside0.mk hY.eq
      have HGI := Aside0.mk hG.info
      have HGQ := Aside0.mk hG.eq
      have HGO := Aside0.mk hG.one
      have HGZ := Aside0.mk (show E.size = G.size from by rw [← hE.zs, ← hG.zs])
      have HAT := Aside0.mk hat
      have HK := Aside0.mk (And.intro hk (And.intro hc hgr))
      have p0 : (k : Int) ≤ 1000 := by have := HI.out.s; omega
      have p1 : (0 : Int) ≤ (k : Int) := by omega
      have p2 : (k : Int) < (k : Int) + 1 := by omega
      have HC1 := Aside0.mk (cut_a (some ⟨gr, 0, none⟩) (k + 1) cap k (by omega) (by obtain ⟨A', c', he, hc', _⟩ := Kd.R_reads HI.out.o; rw [hk] at he hc'; injection he with _ _ he; omega))
      have hq1 := HC1.out
      have hu24 := Try.underlying24
      clear hE hY hG ho hc hgr hgs hat hal hsp hxu hy hk
      go_wp2_with (fail)
      have HY0 := Aside0.mk (show W.drew.heap[g]? = some (.cells E 24 (0, 0)) from HY.out)
      refine wp_region_held_drew (S := fun w' => AtC w' ⟨gr, k * 32, none⟩ (nums .u8 y)) (by kernel_rfl) HAT.out (fun hHeld => ?_)
      (refine wpAnyH_take (i := 0) (v := ?_) rfl (by kernel_rfl) (by kernel_rfl) (by kernel_rfl) (fun _ _ _ h => h) (Or.inl ⟨by rfl, ?_⟩) (by assumption) ?_; (case' refine_2 => (intro w hSw; go_simp; try with_reducible rfl)); (try simp only [Act.put, List.getElem_toArray, List.getElem_cons_zero, List.getElem_cons_succ, List.setIfInBounds_toArray, List.set_cons_zero, List.set_cons_succ]))
      (refine wpAnyH_take (i := 1) (v := ?_) rfl (by kernel_rfl) (by kernel_rfl) (by kernel_rfl) (fun _ _ _ h => h) (Or.inl ⟨by rfl, ?_⟩) (by assumption) ?_; (case' refine_2 => (intro w hSw; go_simp; try with_reducible rfl)); (try simp only [Act.put, List.getElem_toArray, List.getElem_cons_zero, List.getElem_cons_succ, List.setIfInBounds_toArray, List.set_cons_zero, List.set_cons_succ]))
      (refine wpAnyH_take (i := 2) (v := ?_) rfl (by kernel_rfl) (by kernel_rfl) (by kernel_rfl) (fun _ _ _ h => h) (Or.inl ⟨by rfl, ?_⟩) (by assumption) ?_; (case' refine_2 => (intro w hSw; go_simp; try with_reducible rfl)); (try simp only [Act.put, List.getElem_toArray, List.getElem_cons_zero, List.getElem_cons_succ, List.setIfInBounds_toArray, List.set_cons_zero, List.set_cons_succ]))
      (refine wpAnyH_take (i := 3) rfl (by kernel_rfl) (by kernel_rfl) (by kernel_rfl) (fun _ _ _ h => h) (yieldsIf_load_at (by rfl) _ _ rfl ⟨gr, k * 32, none⟩ rfl (nums .u8 y) _ (fun _ h => h) (by assumption) rfl HYI.out) (by assumption) ?_; (try simp only [Act.put, List.getElem_toArray, List.getElem_cons_zero, List.getElem_cons_succ, List.setIfInBounds_toArray, List.set_cons_zero, List.set_cons_succ]))
      rw [HYE.out]
      refine wpAnyH_ready (rs := [4]) (by kernel_rfl) (by simp) (AllReadyH.cons rfl (fun K hK => ?_) AllReadyH.nil)
      rw [if_pos (by rfl)]
      refine wp_load_row 24 (.tmp 8) rfl g rfl 24 E (0, 0) _ HY0.out hu24 rfl HEI.out ?_
      (refine Shut.out hK _ _ HAT.out (fun hHeld => ?_); clear hK K; (try simp only [Act.put, List.getElem_toArray, List.getElem_cons_zero, List.getElem_cons_succ, List.setIfInBounds_toArray, List.set_cons_zero, List.set_cons_succ]))
      (refine wpAnyH_ready (rs := [5]) (by kernel_rfl) (by simp) (AllReadyH.cons rfl (fun K hK => ?_) AllReadyH.nil); go_simp)
      refine (HT2.out _).mono ?_
      rintro e w6 ⟨rfl, hb⟩
      have hbd := below_drew_of hb
      have HO6 := Aside0.mk (Kd.R_below HI.out.o hbd)
      have HY6 := Aside0.mk (blk_below HY.out hbd)
      have HB6 := Aside0.mk (below_step HI.out.bw hbd)
      have HAT6 := Aside0.mk (HAT.out.below hbd)
      have HS6 := Aside0.mk (show g + 1 ≤ w6.heap.size from Nat.le_trans HI.out.bs hbd.size)
      have HO7 := Aside0.mk (show Os (w6.setRow g G) (g + 1) (.slice (some ⟨gr, 0, none⟩) (k + 1) cap) F from os_elder HO6.out (Nat.lt_succ_self g) (fun j hj => setRow_other w6 g j G hj))
      have HAT7 := Aside0.mk (show AtC (w6.setRow g G) ⟨gr, k * 32, none⟩ (nums .u8 y) from by
        have h1 := (os_at HO7.out k (by omega)).1
        have h2 := congrArg (fun l => List.getD l k Z) HSP.out
        have h3 : (F.take k ++ [y]).getD k Z = y := by
          rw [List.getD_eq_getElem?_getD, List.getElem?_append_right (by rw [List.length_take]; omega), List.length_take, Nat.min_eq_left (by have := HK.out.1; omega), Nat.sub_self]
          rfl
        rw [h2, h3] at h1
        exact h1)
      clear hb hbd
      (refine Shut.out hK _ _ HAT6.out (fun hHeld => ?_); clear hK K; (try simp only [Act.put, List.getElem_toArray, List.getElem_cons_zero, List.getElem_cons_succ, List.setIfInBounds_toArray, List.set_cons_zero, List.set_cons_succ]))
      refine wpAnyH_ready (rs := [6]) (by kernel_rfl) (by simp) (AllReadyH.cons rfl (fun K hK => ?_) AllReadyH.nil)
      rw [if_pos (by rfl)]
      refine wp_store_row 24 (.tmp 8) (.tmp 36) rfl g G rfl rfl 24 E HY6.out HGI.out HGZ.out HGO.out ?_
      (refine Shut.out hK _ _ HAT7.out (fun hHeld => ?_); clear hK K; (try simp only [Act.put, List.getElem_toArray, List.getElem_cons_zero, List.getElem_cons_succ, List.setIfInBounds_toArray, List.set_cons_zero, List.set_cons_succ]))
      refine wpAnyH_done (by kernel_rfl) ?_ _
      have HF2 := Aside0.mk (show GrowI w (g + 1) g (nodeH y d) (F.take k) (N / 2) (growT f n (leafH leaf)) (.slice (some ⟨gr, 0, none⟩) k cap) (w6.setRow g G) from by
        refine ⟨?_, Kd.R_take HO7.out (by have := HK.out.1; omega), HGE.out, Nat.lt_succ_self g, by rw [size_setRow]; exact HS6.out, below_setRow HB6.out HGE.out G, nodeH_len _ _, nodeH_u8 _ _, HI.out.u.take _, ?_, by have := HI.out.hm; omega, ?_, by rw [List.length_take]; have := HI.out.s; omega⟩
        · rw [HGQ.out]
          exact setRow_heap _ _ E G _ _ HY6.out
        · rw [List.length_take]; have := HK.out; omega
        · have h := HI.out.e
          rw [HSP.out, growT_odd HN.out, List.dropLast_concat, List.getLastD_concat] at h
          exact h)
      go_wp2_with (fail)
      go_roundw
      case rel => exact ⟨N / 2, F.take k, _, rfl, HF2.out⟩
      case measure => simp [intOf]; have := HN.out; omega
    · obtain ⟨D2, hD2⟩ := sumC d HI.out.dl
      have HD2 := Aside0.mk hD2
      have HE2 := Aside0.mk (show E = D2.toArray from by rw [← hE.eq, hD2.eq])
      have e2 : (((N % 2 : Nat) : Int) == 1) = false := by simp; omega
      have e3 : (N % 2 == 1) = false := by simp; omega
      have HGW := Aside0.mk (show growT f n (leafH leaf) = F ++ [d] from by rw [← HI.out.e, growT_even ho])
      clear hE hD2 ho
      go_wp2_with (first
        | ((with_reducible refine gate_dst (N := 41) rfl ?_); refine wpList_load_row rfl 24 (.tmp 8) rfl g rfl 24 E (0, 0) _ (by exact HY.out) Try.underlying24 rfl HEI.out ?_; rw [HE2.out])
        | ((with_reducible refine gate_dst (N := 42) rfl ?_); refine wpList_sum1 rfl (.tmp 41) rfl D2 rfl HD2.out.lenC ?_)
        | ((with_reducible refine gate_builtin (b := .append) (xs := #[.tmp 40, .tmp 42]) rfl ?_); at_builtin; refine Kd.R_append KS (w0 := w) w.heap.size rfl (.tmp 40) (.tmp 42) 52 24 (.agg Z32) 32 rfl Try.underlying52 info_sums rfl (by decide) (by decide) _ F d D2 (fun _ => True) (fun _ => False) rfl rfl (HD2.out.m _ _) (fun _ h => h.elim) (fun _ _ => trivial) (Kd.R_lower HI.out.o (Nat.le_succ_of_le HGE.out)) HI.out.bw HI.out.bw.size (by have := HI.out.s; omega) ?_; intro v1 w8 ho hb hg hat; have HO5 := Aside0.mk ho; have HB5 := Aside0.mk hb; clear ho hb hg hat))
      go_ret2
      exact ⟨_, rfl, by rw [HGW.out]; exact HO5.out, HB5.out⟩
end Go.Proofs.Ytbebkogkeepfoaa.Tree
/- The document's Root. -/
namespace Go.Proofs.Ytbebkogkeepfoaa.Tree
set_option linter.unusedVariables false
set_option linter.unusedSimpArgs false
open Go.RowKit Go.Proofs.Ytbebkogkeepfoaa.Base Go.Proofs.Ytbebkogkeepfoaa.TlvPlain Go.Proofs.Ytbebkogkeepfoaa.ShaPlain Go.Proofs.Ytbebkogkeepfoaa.Sha Go.Proofs.Ytbebkogkeepfoaa.Com Go.Proofs.Ytbebkogkeepfoaa.Aid Go.Proofs.YtbebkogkeepfoaaW.PrintWords Go.Proofs.YtbebkogkeepfoaaW.PrintLast Go.Proofs.YtbebkogkeepfoaaW.PrintMore
theorem leafX_u8 {a : Sm} (h : U8' a) : ∀ x ∈ leafX a, 0 ≤ x ∧ x ≤ 255 := fun x hx => by
  rcases List.mem_cons.1 hx with rfl | hx
  · decide
  · exact h x hx
theorem nodeX_u8 {a b : Sm} (h : U8' a) (h2 : U8' b) : ∀ x ∈ nodeX a b, 0 ≤ x ∧ x ≤ 255 := fun x hx => by
  rcases List.mem_cons.1 hx with rfl | hx
  · decide
  · exact (List.mem_append.1 hx).elim (h x) (h2 x)
theorem leafX_len {a : Sm} (h : a.length = 32) : (leafX a).length = 33 := by unfold leafX; rw [List.length_cons, h]
theorem nodeX_len {a b : Sm} (h : a.length = 32) (h2 : b.length = 32) : (nodeX a b).length = 65 := by unfold nodeX; rw [List.length_cons, List.length_append, h, h2]
/-- The document's sum of bytes of one's own. -/
theorem rof_o (l : List Int) (hu : ∀ x ∈ l, 0 ≤ x ∧ x ≤ 255) (hl : l.length ≤ 1000) (base : Nat) (v : Value) (w : World) (h : Ob w base v l) : Calls Try.prog 15 #[v] w (Ret w (shaB l)) := by
  obtain ⟨A, c, rfl, hc, hr⟩ := Ob.reads h
  exact rof_c A c l w hr hc hu (by omega)
set_option maxHeartbeats 4000000 in
set_option maxRecDepth 100000 in
theorem rroot_nil (A : Option Addr) (c : Nat) (w : World) : Calls Try.prog 42 #[.slice A 0 c] w (Ret w Z) := by
  have HZ := Aside0.mk (show (w.alloc (.cells Z32 24)).heap[w.heap.size]? = some (.cells Z32 24 (0, 0)) from blk_new _ _)
  have HB := Aside0.mk (below_alloc (Below.refl w.heap.size w) (.cells Z32 24))
  have HIF := Aside0.mk (show (Try.prog.info? 24).map (·.size) = some Z32.size from info_32)
  have HON := Aside0.mk (show Z32.all (·.oneCell') = true from nums_one _ _)
  show Calls _ _ _ _ (fun e w' => e = .returned (.agg Z32) ∧ Below w.heap.size w w')
  go_enter Try.func42, Try.ntmps42
  go_wp2_with ((with_reducible refine gate_store (t := 24) (p := 2) (v := .tmp 7) rfl ?_); refine wpList_store_row rfl 24 (.tmp 2) (.tmp 7) rfl w.heap.size Z32 rfl rfl 24 Z32 HZ.out HIF.out rfl HON.out ?_)
  have HSR := setRow_heap (w.alloc (.cells Z32 24)) w.heap.size Z32 Z32 _ _ HZ.out
  refine bodyPost_ret (v := .agg Z32) (results_cell_row rfl _ _ w.heap.size 24 Z32 (0, 0) _ rfl HSR Try.underlying24 rfl HIF.out) rfl ⟨rfl, below_setRow HB.out (Nat.le_refl _) Z32⟩
set_option maxHeartbeats 4000000 in
set_option maxRecDepth 100000 in
theorem rroot_one (a : Sm) (hu : U8' a) (A : Option Addr) (c : Nat) (w : World) (hr : Rs w A [a]) :
    Calls Try.prog 42 #[.slice A 1 c] w (Ret w (leafH a)) := by
  have HZ := Aside0.mk (show (w.alloc (.cells Z32 24)).heap[w.heap.size]? = some (.cells Z32 24 (0, 0)) from blk_new _ _)
  have HB := Aside0.mk (below_alloc (Below.refl w.heap.size w) (.cells Z32 24))
  obtain ⟨D, hD⟩ := sumF (leafH a) (leafH_len a)
  have HD := Aside0.mk hD
  have HIF := Aside0.mk HD.out.info
  unfold Ret
  rw [hD.v]
  obtain ⟨ad, rfl, hat, hal⟩ := rs_at hr 0 (by simp)
  obtain ⟨C, hC⟩ := sumF a hal
  have HA := Aside0.mk (show AtC (w.alloc (.cells Z32 24)) ad (nums .u8 a) from hat.below HB.out)
  have HC := Aside0.mk hC
  have HCI := Aside0.mk hC.infoL
  have HL := Aside0.mk (rleafx_c a hal)
  have HS := Aside0.mk (rof_o (leafX a) (leafX_u8 hu) (by rw [leafX_len (a := a) hal]; decide))
  unfold MakesU at HL
  unfold Ret at HS
  rw [hC.v] at HL
  rw [← leafH_eq, HD.out.v] at HS
  clear hD hr hu hat hal hC
  go_enter Try.func42, Try.ntmps42
  go_wp2_with ((with_reducible refine gate_dst (N := 13) rfl ?_); refine wpList_load_at rfl 24 (.tmp 12) rfl ad rfl (nums .u8 a) _ HA.out Try.underlying24 rfl HCI.out ?_; rw [HC.out.eq])
  refine (HL.out _).mono ?_
  rintro e w3 ⟨v, rfl, ho, hb⟩
  have HZ3 := Aside0.mk (blk_below HZ.out hb)
  have HB3 := Aside0.mk (below_step HB.out hb)
  have HS3 := Aside0.mk (HS.out _ v w3 ho)
  clear hb ho
  go_wp2_with (fail)
  refine HS3.out.mono ?_
  rintro e w6 ⟨rfl, hb⟩
  have HZ6 := Aside0.mk (blk_below HZ3.out hb)
  have HB6 := Aside0.mk (below_step HB3.out hb)
  clear hb
  go_wp2_with ((with_reducible refine gate_store (t := 24) (p := 2) (v := .tmp 15) rfl ?_); refine wpList_store_row rfl 24 (.tmp 2) (.tmp 15) rfl w.heap.size D rfl rfl 24 Z32 HZ6.out HIF.out HD.out.zs HD.out.one ?_)
  have HSR := setRow_heap w6 w.heap.size Z32 D _ _ HZ6.out
  refine bodyPost_ret (v := .agg D) (results_cell_row rfl _ _ w.heap.size 24 D (0, 0) _ rfl HSR Try.underlying24 rfl HIF.out) rfl ⟨rfl, below_setRow HB6.out (Nat.le_refl _) D⟩
set_option maxHeartbeats 4000000 in
set_option maxRecDepth 100000 in
theorem rroot_two (x y : Sm) (hx : x.length = 32) (hy : y.length = 32) (hu : U8' x) (hv : U8' y) (n k : Nat) (hk2 : hlf n = k) (h2 : 2 ≤ n) (hm : n ≤ 1000000) (A : Option Addr) (c : Nat) (hc : n ≤ c) (w : World)
    (hX : ∀ W, Below w.heap.size w W → Calls Try.prog 42 #[.slice A k c] W (Ret W x))
    (hY : ∀ W, Below w.heap.size w W → Calls Try.prog 42 #[.slice (restA A c k) (n - k) (c - k)] W (Ret W y)) :
    Calls Try.prog 42 #[.slice A n c] w (Ret w (nodeH x y)) := by
  have HZ := Aside0.mk (show (w.alloc (.cells Z32 24)).heap[w.heap.size]? = some (.cells Z32 24 (0, 0)) from blk_new _ _)
  have HB := Aside0.mk (below_alloc (Below.refl w.heap.size w) (.cells Z32 24))
  obtain ⟨D, hD⟩ := sumF (nodeH x y) (nodeH_len x y)
  have HD := Aside0.mk hD
  have HIF := Aside0.mk HD.out.info
  have hk := hlf_lt h2
  have HKB := Aside0.mk (fun W => half_c n h2 (by omega) W)
  rw [hk2] at HKB hk
  obtain ⟨X, hX'⟩ := sumF x hx
  obtain ⟨Y, hY'⟩ := sumF y hy
  have HT := Aside0.mk (rnodex_c x y hx hy)
  have HS := Aside0.mk (rof_o (nodeX x y) (nodeX_u8 hu hv) (by rw [nodeX_len hx hy]; decide))
  unfold Ret at hX hY HS ⊢
  unfold MakesU at HT
  rw [hX'.v] at hX HT
  rw [hY'.v] at hY HT
  rw [← nodeH_eq, HD.out.v] at HS
  have HX := Aside0.mk hX
  have HY := Aside0.mk hY
  rw [hD.v]
  have hc1 := cut_a A n c k (by omega) hc
  have hc2 := cut_b A n c k (by omega)
  have d0 : ((n : Int) == 0) = false := by simp; omega
  have d1 : ((n : Int) == 1) = false := by simp; omega
  have HC1 := Aside0.mk hc1
  have HC2 := Aside0.mk hc2
  clear hD hX hY hX' hY' hx hy hu hv hk hc hm h2 hk2 hc1 hc2
  go_enter Try.func42, Try.ntmps42
  go_wp2_with (go_at_call 60; refine (HKB.out _).mono ?_; rintro e w2 ⟨rfl, hd⟩; have HZ2 := Aside0.mk (blk_below HZ.out (Drawn0.below hd)); have HB2 := Aside0.mk (below_step HB.out (Drawn0.below hd)); clear hd)
  clear HZ HB
  have hq1 := HC1.out
  have hq2 := HC2.out
  refine wp_region_held_drew (S := fun _ => True) (by kernel_rfl) trivial (fun hHeld => ?_)
  (refine wpAnyH_take (i := 0) (v := ?_) rfl (by kernel_rfl) (by kernel_rfl) (by kernel_rfl) (fun _ _ _ h => h) (Or.inl ⟨by rfl, ?_⟩) (by assumption) ?_; (case' refine_2 => (intro w hSw; go_simp; try with_reducible rfl)); (try simp only [Act.put, List.getElem_toArray, List.getElem_cons_zero, List.getElem_cons_succ, List.setIfInBounds_toArray, List.set_cons_zero, List.set_cons_succ]))
  (refine wpAnyH_take (i := 1) (v := ?_) rfl (by kernel_rfl) (by kernel_rfl) (by kernel_rfl) (fun _ _ _ h => h) (Or.inl ⟨by rfl, ?_⟩) (by assumption) ?_; (case' refine_2 => (intro w hSw; go_simp; try with_reducible rfl)); (try simp only [Act.put, List.getElem_toArray, List.getElem_cons_zero, List.getElem_cons_succ, List.setIfInBounds_toArray, List.set_cons_zero, List.set_cons_succ]))
  (refine wpAnyH_take (i := 2) (v := ?_) rfl (by kernel_rfl) (by kernel_rfl) (by kernel_rfl) (fun _ _ _ h => h) (Or.inl ⟨by rfl, ?_⟩) (by assumption) ?_; (case' refine_2 => (intro w hSw; go_simp; try with_reducible rfl)); (try simp only [Act.put, List.getElem_toArray, List.getElem_cons_zero, List.getElem_cons_succ, List.setIfInBounds_toArray, List.set_cons_zero, List.set_cons_succ]))
  (refine wpAnyH_take (i := 4) (v := ?_) rfl (by kernel_rfl) (by kernel_rfl) (by kernel_rfl) (fun _ _ _ h => h) (Or.inl ⟨by rfl, ?_⟩) (by assumption) ?_; (case' refine_2 => (intro w hSw; go_simp; try with_reducible rfl)); (try simp only [Act.put, List.getElem_toArray, List.getElem_cons_zero, List.getElem_cons_succ, List.setIfInBounds_toArray, List.set_cons_zero, List.set_cons_succ]))
  (refine wpAnyH_take (i := 5) (v := ?_) rfl (by kernel_rfl) (by kernel_rfl) (by kernel_rfl) (fun _ _ _ h => h) (Or.inl ⟨by rfl, ?_⟩) (by assumption) ?_; (case' refine_2 => (intro w hSw; go_simp; try with_reducible rfl)); (try simp only [Act.put, List.getElem_toArray, List.getElem_cons_zero, List.getElem_cons_succ, List.setIfInBounds_toArray, List.set_cons_zero, List.set_cons_succ]))
  (refine wpAnyH_take (i := 6) (v := ?_) rfl (by kernel_rfl) (by kernel_rfl) (by kernel_rfl) (fun _ _ _ h => h) (Or.inl ⟨by rfl, ?_⟩) (by assumption) ?_; (case' refine_2 => (intro w hSw; go_simp; try with_reducible rfl)); (try simp only [Act.put, List.getElem_toArray, List.getElem_cons_zero, List.getElem_cons_succ, List.setIfInBounds_toArray, List.set_cons_zero, List.set_cons_succ]))
  (refine wpAnyH_ready (rs := [3]) (by kernel_rfl) (by simp) (AllReadyH.cons rfl (fun K hK => ?_) AllReadyH.nil); go_simp)
  refine (HX.out _ (below_drew1 HB2.out)).mono ?_
  rintro e w3 ⟨rfl, hb⟩
  have HZ3 := Aside0.mk (blk_below HZ2.out (below_drew_of hb))
  have HB3 := Aside0.mk (below_step HB2.out (below_drew_of hb))
  clear hb
  (refine Shut.out hK _ _ trivial (fun hHeld => ?_); clear hK K; (try simp only [Act.put, List.getElem_toArray, List.getElem_cons_zero, List.getElem_cons_succ, List.setIfInBounds_toArray, List.set_cons_zero, List.set_cons_succ]))
  (refine wpAnyH_ready (rs := [7]) (by kernel_rfl) (by simp) (AllReadyH.cons rfl (fun K hK => ?_) AllReadyH.nil); go_simp)
  refine (HY.out _ HB3.out).mono ?_
  rintro e w4 ⟨rfl, hb⟩
  have HZ4 := Aside0.mk (blk_below HZ3.out hb)
  have HB4 := Aside0.mk (below_step HB3.out hb)
  clear hb
  (refine Shut.out hK _ _ trivial (fun hHeld => ?_); clear hK K; (try simp only [Act.put, List.getElem_toArray, List.getElem_cons_zero, List.getElem_cons_succ, List.setIfInBounds_toArray, List.set_cons_zero, List.set_cons_succ]))
  (refine wpAnyH_ready (rs := [8]) (by kernel_rfl) (by simp) (AllReadyH.cons rfl (fun K hK => ?_) AllReadyH.nil); go_simp)
  refine (HT.out _).mono ?_
  rintro e w5 ⟨v, rfl, ho, hb⟩
  have HZ5 := Aside0.mk (blk_below HZ4.out hb)
  have HB5 := Aside0.mk (below_step HB4.out hb)
  have HS5 := Aside0.mk (HS.out _ v w5 ho)
  clear hb ho
  (refine Shut.out hK _ _ trivial (fun hHeld => ?_); clear hK K; (try simp only [Act.put, List.getElem_toArray, List.getElem_cons_zero, List.getElem_cons_succ, List.setIfInBounds_toArray, List.set_cons_zero, List.set_cons_succ]))
  (refine wpAnyH_ready (rs := [9]) (by kernel_rfl) (by simp) (AllReadyH.cons rfl (fun K hK => ?_) AllReadyH.nil); go_simp)
  refine HS5.out.mono ?_
  rintro e w6 ⟨rfl, hb⟩
  have HZ6 := Aside0.mk (blk_below HZ5.out hb)
  have HB6 := Aside0.mk (below_step HB5.out hb)
  clear hb
  (refine Shut.out hK _ _ trivial (fun hHeld => ?_); clear hK K; (try simp only [Act.put, List.getElem_toArray, List.getElem_cons_zero, List.getElem_cons_succ, List.setIfInBounds_toArray, List.set_cons_zero, List.set_cons_succ]))
  refine wpAnyH_ready (rs := [10]) (by kernel_rfl) (by simp) (AllReadyH.cons rfl (fun K hK => ?_) AllReadyH.nil)
  rw [if_pos (by rfl)]
  refine wp_store_row 24 (.tmp 2) (.tmp 28) rfl w.heap.size D rfl rfl 24 Z32 HZ6.out HIF.out HD.out.zs HD.out.one ?_
  (refine Shut.out hK _ _ trivial (fun hHeld => ?_); clear hK K; (try simp only [Act.put, List.getElem_toArray, List.getElem_cons_zero, List.getElem_cons_succ, List.setIfInBounds_toArray, List.set_cons_zero, List.set_cons_succ]))
  refine wpAnyH_done (by kernel_rfl) ?_ _
  go_wp2_with (fail)
  have HSR := setRow_heap w6 w.heap.size Z32 D _ _ HZ6.out
  refine bodyPost_ret (v := .agg D) (results_cell_row rfl _ _ w.heap.size 24 D (0, 0) _ rfl HSR Try.underlying24 rfl HIF.out) rfl ⟨rfl, below_setRow HB6.out (Nat.le_refl _) D⟩
theorem rroot_c : ∀ (n : Nat) (l : List Sm), l.length = n → n ≤ 1000000 → ∀ (A : Option Addr) (c : Nat) (w : World), Rs w A l → n ≤ c → Lu l →
    Calls Try.prog 42 #[.slice A n c] w (Ret w (rootT l)) := by
  intro n
  induction n using Nat.strongRecOn with
  | ind n ih =>
  intro l hn hm A c w hr hc hu
  by_cases h0 : n = 0
  · subst h0
    have h1 : l = [] := List.length_eq_zero_iff.1 hn
    subst h1
    rw [rootT_nil]
    exact rroot_nil A c w
  · by_cases h1 : n = 1
    · subst h1
      obtain ⟨a, rfl⟩ := List.length_eq_one_iff.1 hn
      rw [rootT_one]
      exact rroot_one a (hu a (by simp)).2 A c w hr
    · have hk := hlf_lt (n := n) (by omega)
      have hp := hlf_pos n
      rw [rootT_two (l := l) (by omega), hn]
      exact rroot_two _ _ (rootT_len _) (rootT_len _) (rootT_u8 _) (rootT_u8 _) n _ rfl (by omega) hm A c hc w
        (fun W hW => ih _ hk (l.take (hlf n)) (by rw [List.length_take]; omega) (by omega) A c W (Rs.take (Kd.C_below hr hW) (by omega)) (by omega) (hu.take _))
        (fun W hW => ih (n - hlf n) (by omega) (l.drop (hlf n)) (by rw [List.length_drop]; omega) (by omega) _ (c - hlf n) W (Rs.drop (Kd.C_below hr hW) (by omega) (by omega)) (by omega) (hu.drop _))
end Go.Proofs.Ytbebkogkeepfoaa.Tree
/- The document's Path, Frontier. -/
namespace Go.Proofs.Ytbebkogkeepfoaa.Tree
set_option linter.unusedVariables false
set_option linter.unusedSimpArgs false
open Go.RowKit Go.Proofs.Ytbebkogkeepfoaa.Base Go.Proofs.Ytbebkogkeepfoaa.TlvPlain Go.Proofs.Ytbebkogkeepfoaa.ShaPlain Go.Proofs.Ytbebkogkeepfoaa.Sha Go.Proofs.Ytbebkogkeepfoaa.Com Go.Proofs.Ytbebkogkeepfoaa.Aid Go.Proofs.YtbebkogkeepfoaaW.PrintWords Go.Proofs.YtbebkogkeepfoaaW.PrintLast Go.Proofs.YtbebkogkeepfoaaW.PrintMore
theorem pathT_len (l : List Sm) (i : Nat) : (pathT l i).length ≤ l.length := by
  generalize hn : l.length = n
  induction n using Nat.strongRecOn generalizing l i with
  | ind n ih =>
    rw [pathT]
    split
    · exact Nat.zero_le _
    · next h1 =>
      have hb := hlf_lt (n := l.length) (by omega)
      have hp := hlf_pos l.length
      split
      · have := ih (hlf l.length) (by omega) (l.take (hlf l.length)) i (by rw [List.length_take]; omega)
        rw [List.length_append, List.length_singleton]
        omega
      · have := ih (n - hlf l.length) (by omega) (l.drop (hlf l.length)) (i - hlf l.length) (by rw [List.length_drop]; omega)
        rw [List.length_append, List.length_singleton]
        omega
set_option maxHeartbeats 4000000 in
set_option maxRecDepth 100000 in
theorem rpath_bad (A : Option Addr) (n c : Nat) (i : Int) (w : World) (h : i < 0 ∨ (n : Int) ≤ i) :
    Calls Try.prog 40 #[.slice A n c, .int .i64 i] w fun e w' => e = .returned (.tuple #[.slice none 0 0, .bool false]) ∧ w' = w := by
  by_cases h1 : i < 0
  · have d1 : decide (i < 0) = true := decide_eq_true h1
    clear h h1
    go_enter Try.func40, Try.ntmps40
    go_wp2_with (fail)
    go_ret2
    exact ⟨rfl, rfl⟩
  · have d1 : decide (i < 0) = false := decide_eq_false h1
    have d2 : decide ((n : Int) ≤ i) = true := decide_eq_true (by omega)
    clear h h1
    go_enter Try.func40, Try.ntmps40
    go_wp2_with (fail)
    go_ret2
    exact ⟨rfl, rfl⟩
set_option maxHeartbeats 4000000 in
set_option maxRecDepth 100000 in
theorem rpath_one (A : Option Addr) (c : Nat) (w : World) :
    Calls Try.prog 40 #[.slice A 1 c, .int .i64 0] w (RetO w [] true) := by
  unfold RetO
  go_enter Try.func40, Try.ntmps40
  go_wp2_with (fail)
  go_ret2
  exact ⟨_, rfl, Kd.R_nil _ _ _ _ _, Below.refl _ _⟩
set_option maxHeartbeats 4000000 in
set_option maxRecDepth 100000 in
theorem rpath_left (p : List Sm) (x : Sm) (hx : x.length = 32) (hpl : p.length ≤ 1000000) (n k i : Nat) (hk2 : hlf n = k) (h2 : 2 ≤ n) (hm : n ≤ 1000000) (hi : i < n) (hik : i < k) (A : Option Addr) (c : Nat) (hc : n ≤ c) (w : World)
    (hP : ∀ W, Below w.heap.size w W → Calls Try.prog 40 #[.slice A k c, .int .i64 (i : Int)] W (RetO W p true))
    (hX : ∀ W, Below w.heap.size w W → Calls Try.prog 42 #[.slice (restA A c k) (n - k) (c - k)] W (Ret W x)) :
    Calls Try.prog 40 #[.slice A n c, .int .i64 (i : Int)] w (RetO w (p ++ [x]) true) := by
  have hk := hlf_lt h2
  have HKB := Aside0.mk (fun W => half_c n h2 (by omega) W)
  rw [hk2] at HKB hk
  obtain ⟨D, hD⟩ := sumC x hx
  unfold RetO at hP ⊢
  unfold Ret at hX
  rw [hD.v] at hX
  have HD := Aside0.mk hD
  have HP := Aside0.mk hP
  have HX := Aside0.mk hX
  have HPL := Aside0.mk hpl
  have HC1 := Aside0.mk (cut_a A n c k (by omega) hc)
  have HC2 := Aside0.mk (cut_b A n c k (by omega))
  have d0 : decide ((i : Int) < 0) = false := decide_eq_false (by omega)
  have d1 : decide ((n : Int) ≤ (i : Int)) = false := decide_eq_false (by omega)
  have d2 : decide (n ≤ i) = false := decide_eq_false (by omega)
  have d3 : ((n : Int) == 1) = false := by simp; omega
  have d4 : (n == 1) = false := by simp; omega
  have d5 : decide ((i : Int) < (k : Int)) = true := decide_eq_true (by omega)
  have d6 : decide (i < k) = true := decide_eq_true (by omega)
  have b1 : (i : Int) ≤ 1000000 := by omega
  have b2 : (k : Int) ≤ 1000000 := by omega
  have b3 : (0 : Int) ≤ (i : Int) := by omega
  have b4 : (0 : Int) ≤ (k : Int) := by omega
  have HB := Aside0.mk (Below.refl w.heap.size w)
  clear hD hP hX hx hpl hk hk2 h2 hm hi hik hc
  have hq1 := HC1.out
  have hq2 := HC2.out
  go_enter Try.func40, Try.ntmps40
  go_wp2_with (go_at_call 60; refine (HKB.out _).mono ?_; rintro e w2 ⟨rfl, hd⟩; have HB2 := Aside0.mk (below_step HB.out (Drawn0.below hd)); clear hd)
  refine (HP.out _ HB2.out).mono ?_
  rintro e w3 ⟨v, rfl, ho, hb⟩
  have HO3 := Aside0.mk (show Os w3 w.heap.size v p from Kd.R_lower ho HB2.out.size)
  have HB3 := Aside0.mk (below_step HB2.out hb)
  clear ho hb
  go_wp2_with (fail)
  refine (HX.out _ HB3.out).mono ?_
  rintro e w4 ⟨rfl, hb⟩
  have HO4 := Aside0.mk (Kd.R_below HO3.out hb)
  have HB4 := Aside0.mk (below_step HB3.out hb)
  clear hb
  go_wp2_with (first
    | ((with_reducible refine gate_dst (N := 41) rfl ?_); refine wpList_sum1 rfl (.tmp 40) rfl D rfl HD.out.lenC ?_)
    | ((with_reducible refine gate_builtin (b := .append) (xs := #[.tmp 36, .tmp 41]) rfl ?_); at_builtin; refine Kd.R_append KS (w0 := w) w.heap.size rfl (.tmp 36) (.tmp 41) 52 24 (.agg Z32) 32 rfl Try.underlying52 info_sums rfl (by decide) (by decide) _ p _ D (fun _ => True) (fun _ => False) rfl rfl (HD.out.m _ _) (fun _ h => h.elim) (fun _ _ => trivial) HO4.out HB4.out HB4.out.size (by have := HPL.out; omega) ?_; intro v1 w5 ho hb hg hat; have HO5 := Aside0.mk ho; have HB5 := Aside0.mk hb; clear ho hb hg hat))
  go_ret2
  exact ⟨_, rfl, HO5.out, HB5.out⟩
set_option maxHeartbeats 4000000 in
set_option maxRecDepth 100000 in
theorem rpath_right (p : List Sm) (x : Sm) (hx : x.length = 32) (hpl : p.length ≤ 1000000) (n k i : Nat) (hk2 : hlf n = k) (h2 : 2 ≤ n) (hm : n ≤ 1000000) (hi : i < n) (hik : k ≤ i) (A : Option Addr) (c : Nat) (hc : n ≤ c) (w : World)
    (hP : ∀ W, Below w.heap.size w W → Calls Try.prog 40 #[.slice (restA A c k) (n - k) (c - k), .int .i64 ((i : Int) - (k : Int))] W (RetO W p true))
    (hX : ∀ W, Below w.heap.size w W → Calls Try.prog 42 #[.slice A k c] W (Ret W x)) :
    Calls Try.prog 40 #[.slice A n c, .int .i64 (i : Int)] w (RetO w (p ++ [x]) true) := by
  have hk := hlf_lt h2
  have HKB := Aside0.mk (fun W => half_c n h2 (by omega) W)
  rw [hk2] at HKB hk
  obtain ⟨D, hD⟩ := sumC x hx
  unfold RetO at hP ⊢
  unfold Ret at hX
  rw [hD.v] at hX
  have HD := Aside0.mk hD
  have HP := Aside0.mk hP
  have HX := Aside0.mk hX
  have HPL := Aside0.mk hpl
  have HC1 := Aside0.mk (cut_a A n c k (by omega) hc)
  have HC2 := Aside0.mk (cut_b A n c k (by omega))
  have d0 : decide ((i : Int) < 0) = false := decide_eq_false (by omega)
  have d1 : decide ((n : Int) ≤ (i : Int)) = false := decide_eq_false (by omega)
  have d2 : decide (n ≤ i) = false := decide_eq_false (by omega)
  have d3 : ((n : Int) == 1) = false := by simp; omega
  have d4 : (n == 1) = false := by simp; omega
  have d5 : decide ((i : Int) < (k : Int)) = false := decide_eq_false (by omega)
  have d6 : decide (i < k) = false := decide_eq_false (by omega)
  have b1 : (i : Int) ≤ 1000000 := by omega
  have b2 : (k : Int) ≤ 1000000 := by omega
  have b3 : (0 : Int) ≤ (i : Int) := by omega
  have b4 : (0 : Int) ≤ (k : Int) := by omega
  have HB := Aside0.mk (Below.refl w.heap.size w)
  clear hD hP hX hx hpl hk hk2 h2 hm hi hik hc
  have hq1 := HC1.out
  have hq2 := HC2.out
  go_enter Try.func40, Try.ntmps40
  go_wp2_with (go_at_call 60; refine (HKB.out _).mono ?_; rintro e w2 ⟨rfl, hd⟩; have HB2 := Aside0.mk (below_step HB.out (Drawn0.below hd)); clear hd)
  refine (HP.out _ HB2.out).mono ?_
  rintro e w3 ⟨v, rfl, ho, hb⟩
  have HO3 := Aside0.mk (show Os w3 w.heap.size v p from Kd.R_lower ho HB2.out.size)
  have HB3 := Aside0.mk (below_step HB2.out hb)
  clear ho hb
  go_wp2_with (fail)
  refine (HX.out _ HB3.out).mono ?_
  rintro e w4 ⟨rfl, hb⟩
  have HO4 := Aside0.mk (Kd.R_below HO3.out hb)
  have HB4 := Aside0.mk (below_step HB3.out hb)
  clear hb
  go_wp2_with (first
    | ((with_reducible refine gate_dst (N := 58) rfl ?_); refine wpList_sum1 rfl (.tmp 57) rfl D rfl HD.out.lenC ?_)
    | ((with_reducible refine gate_builtin (b := .append) (xs := #[.tmp 53, .tmp 58]) rfl ?_); at_builtin; refine Kd.R_append KS (w0 := w) w.heap.size rfl (.tmp 53) (.tmp 58) 52 24 (.agg Z32) 32 rfl Try.underlying52 info_sums rfl (by decide) (by decide) _ p _ D (fun _ => True) (fun _ => False) rfl rfl (HD.out.m _ _) (fun _ h => h.elim) (fun _ _ => trivial) HO4.out HB4.out HB4.out.size (by have := HPL.out; omega) ?_; intro v1 w5 ho hb hg hat; have HO5 := Aside0.mk ho; have HB5 := Aside0.mk hb; clear ho hb hg hat))
  go_ret2
  exact ⟨_, rfl, HO5.out, HB5.out⟩

theorem rpath_c : ∀ (n : Nat) (l : List Sm), l.length = n → n ≤ 1000000 → ∀ (i : Nat), i < n → ∀ (A : Option Addr) (c : Nat) (w : World), Rs w A l → n ≤ c → Lu l →
    Calls Try.prog 40 #[.slice A n c, .int .i64 (i : Int)] w (RetO w (pathT l i) true) := by
  intro n
  induction n using Nat.strongRecOn with
  | ind n ih =>
  intro l hn hm i hi A c w hr hc hu
  by_cases h1 : n = 1
  · subst h1
    have : i = 0 := by omega
    subst this
    rw [pathT, dif_pos (by omega)]
    exact rpath_one A c w
  · have hk := hlf_lt (n := n) (by omega)
    have hp := hlf_pos n
    rw [pathT, dif_neg (by omega), hn]
    by_cases hik : i < hlf n
    · rw [if_pos hik]
      exact rpath_left _ _ (rootT_len _) (Nat.le_trans (pathT_len _ _) (by rw [List.length_take]; omega)) n _ i rfl (by omega) hm hi hik A c hc w
        (fun W hW => ih _ hk (l.take (hlf n)) (by rw [List.length_take]; omega) (by omega) i hik A c W (Rs.take (Kd.C_below hr hW) (by omega)) (by omega) (hu.take _))
        (fun W hW => rroot_c (n - hlf n) (l.drop (hlf n)) (by rw [List.length_drop]; omega) (by omega) _ (c - hlf n) W (Rs.drop (Kd.C_below hr hW) (by omega) (by omega)) (by omega) (hu.drop _))
    · rw [if_neg hik]
      refine rpath_right _ _ (rootT_len _) (Nat.le_trans (pathT_len _ _) (by rw [List.length_drop]; omega)) n (hlf n) i rfl (by omega) hm hi (by omega) A c hc w
        (fun W hW => ?_)
        (fun W hW => rroot_c (hlf n) (l.take (hlf n)) (by rw [List.length_take]; omega) (by omega) A c W (Rs.take (Kd.C_below hr hW) (by omega)) (by omega) (hu.take _))
      have h := ih (n - hlf n) (by omega) (l.drop (hlf n)) (by rw [List.length_drop]; omega) (by omega) (i - hlf n) (by omega) (restA A c (hlf n)) (c - hlf n) W (Rs.drop (Kd.C_below hr hW) (by omega) (by omega)) (by omega) (hu.drop _)
      rwa [show ((i - hlf n : Nat) : Int) = (i : Int) - (hlf n : Int) by omega] at h
end Go.Proofs.Ytbebkogkeepfoaa.Tree
/- The document's Frontier. -/
namespace Go.Proofs.Ytbebkogkeepfoaa.Tree
set_option linter.unusedVariables false
set_option linter.unusedSimpArgs false
open Go.RowKit Go.Proofs.Ytbebkogkeepfoaa.Base Go.Proofs.Ytbebkogkeepfoaa.TlvPlain Go.Proofs.Ytbebkogkeepfoaa.ShaPlain Go.Proofs.Ytbebkogkeepfoaa.Sha Go.Proofs.Ytbebkogkeepfoaa.Com Go.Proofs.Ytbebkogkeepfoaa.Aid Go.Proofs.YtbebkogkeepfoaaW.PrintWords Go.Proofs.YtbebkogkeepfoaaW.PrintLast Go.Proofs.YtbebkogkeepfoaaW.PrintMore
theorem wp_sum1 {o : Oper} {a : Act} {w : World} {K : Act → World → Prop} {Q : Exit → Act → World → Prop} (x : Operand) (ho : o.op = .buildSlice 52 1 #[(0, x)]) (cs : List Value) (hx : a.eval x = .agg cs.toArray) (hc : cs.length = 32)
    (h : K (a.put o.dst (.slice (some ⟨w.heap.size, 0, none⟩) 1 1)) (w.alloc (.cells cs.toArray 24))) : Oper.wp Try.prog o a w K Q := by
  have hp : (#[((0 : Nat), x)].map fun (i, y) => (i, a.eval y)) = #[(0, .agg cs.toArray)] := by simp [hx]
  unfold Oper.wp execOp
  simp only [ho, hp, Sem.run_bind, run_sum1 w cs hc, Result.andThen_ok]
  exact h
theorem os_one {cs : List Value} {d : Sm} (h : SumC cs d) (W : World) : Os (W.alloc (.cells cs.toArray 24)) W.heap.size (.slice (some ⟨W.heap.size, 0, none⟩) 1 1) [d] := by
  refine lit_R KS W 24 (okp := fun _ => False) (xs := [d]) (inner := cs) ⟨by rw [h.lenC]; rfl, fun j p hj => ?_⟩ (by simp)
  match j, hj with
  | 0, hj =>
    cases hj
    rw [show (cs.drop (0 * KS.sz)).take KS.sz = cs from by
      rw [Nat.zero_mul, List.drop_zero]
      exact List.take_of_length_le (by rw [h.lenC]; exact Nat.le_refl _)]
    exact h.m W _
theorem frontT_le (l : List Sm) : (frontT l).length ≤ l.length := by rw [frontT_len]; exact ones_le _
set_option maxHeartbeats 4000000 in
set_option maxRecDepth 100000 in
theorem rfront_step (x : Sm) (q : List Sm) (hx : x.length = 32) (hql : q.length ≤ 1000000) (n k : Nat) (hk2 : hlf (n + 1) = k) (hk : k ≤ n) (h0 : n ≠ 0) (hm : n ≤ 1000000) (A : Option Addr) (c : Nat) (hc : n ≤ c) (w : World)
    (hX : ∀ W, Below w.heap.size w W → Calls Try.prog 42 #[.slice A k c] W (Ret W x))
    (hQ : ∀ W, Below w.heap.size w W → Calls Try.prog 41 #[.slice (restA A c k) (n - k) (c - k)] W (RetV W q)) :
    Calls Try.prog 41 #[.slice A n c] w (RetV w (x :: q)) := by
  have HKB := Aside0.mk (fun W => half_c (n + 1) (by omega) (by omega) W)
  rw [hk2, Int.natCast_add, show ((1 : Nat) : Int) = 1 from rfl] at HKB
  obtain ⟨D, hD⟩ := sumC x hx
  unfold RetV at hQ ⊢
  unfold Ret at hX
  rw [hD.v] at hX
  have HD := Aside0.mk hD
  have HQ := Aside0.mk hQ
  have HX := Aside0.mk hX
  have HQL := Aside0.mk hql
  have HC1 := Aside0.mk (cut_a A n c k (by omega) hc)
  have HC2 := Aside0.mk (cut_b A n c k (by omega))
  have d3 : ((n : Int) == 0) = false := by simp; omega
  have b1 : (n : Int) ≤ 1000000 := by omega
  have HB := Aside0.mk (Below.refl w.heap.size w)
  clear hD hQ hX hx hql hk hk2 h0 hm hc
  have hq1 := HC1.out
  have hq2 := HC2.out
  go_enter Try.func41, Try.ntmps41
  go_wp2_with (go_at_call 60; refine (HKB.out _).mono ?_; rintro e w2 ⟨rfl, hd⟩; have HB2 := Aside0.mk (below_step HB.out (Drawn0.below hd)); clear hd)
  refine wp_region_held_drew (S := fun _ => True) (by kernel_rfl) trivial (fun hHeld => ?_)
  (refine wpAnyH_take (i := 0) (v := ?_) rfl (by kernel_rfl) (by kernel_rfl) (by kernel_rfl) (fun _ _ _ h => h) (Or.inl ⟨by rfl, ?_⟩) (by assumption) ?_; (case' refine_2 => (intro w hSw; go_simp; try with_reducible rfl)); (try simp only [Act.put, List.getElem_toArray, List.getElem_cons_zero, List.getElem_cons_succ, List.setIfInBounds_toArray, List.set_cons_zero, List.set_cons_succ]))
  (refine wpAnyH_take (i := 1) (v := ?_) rfl (by kernel_rfl) (by kernel_rfl) (by kernel_rfl) (fun _ _ _ h => h) (Or.inl ⟨by rfl, ?_⟩) (by assumption) ?_; (case' refine_2 => (intro w hSw; go_simp; try with_reducible rfl)); (try simp only [Act.put, List.getElem_toArray, List.getElem_cons_zero, List.getElem_cons_succ, List.setIfInBounds_toArray, List.set_cons_zero, List.set_cons_succ]))
  (refine wpAnyH_take (i := 2) (v := ?_) rfl (by kernel_rfl) (by kernel_rfl) (by kernel_rfl) (fun _ _ _ h => h) (Or.inl ⟨by rfl, ?_⟩) (by assumption) ?_; (case' refine_2 => (intro w hSw; go_simp; try with_reducible rfl)); (try simp only [Act.put, List.getElem_toArray, List.getElem_cons_zero, List.getElem_cons_succ, List.setIfInBounds_toArray, List.set_cons_zero, List.set_cons_succ]))
  (refine wpAnyH_take (i := 5) (v := ?_) rfl (by kernel_rfl) (by kernel_rfl) (by kernel_rfl) (fun _ _ _ h => h) (Or.inl ⟨by rfl, ?_⟩) (by assumption) ?_; (case' refine_2 => (intro w hSw; go_simp; try with_reducible rfl)); (try simp only [Act.put, List.getElem_toArray, List.getElem_cons_zero, List.getElem_cons_succ, List.setIfInBounds_toArray, List.set_cons_zero, List.set_cons_succ]))
  (refine wpAnyH_take (i := 6) (v := ?_) rfl (by kernel_rfl) (by kernel_rfl) (by kernel_rfl) (fun _ _ _ h => h) (Or.inl ⟨by rfl, ?_⟩) (by assumption) ?_; (case' refine_2 => (intro w hSw; go_simp; try with_reducible rfl)); (try simp only [Act.put, List.getElem_toArray, List.getElem_cons_zero, List.getElem_cons_succ, List.setIfInBounds_toArray, List.set_cons_zero, List.set_cons_succ]))
  (refine wpAnyH_take (i := 7) (v := ?_) rfl (by kernel_rfl) (by kernel_rfl) (by kernel_rfl) (fun _ _ _ h => h) (Or.inl ⟨by rfl, ?_⟩) (by assumption) ?_; (case' refine_2 => (intro w hSw; go_simp; try with_reducible rfl)); (try simp only [Act.put, List.getElem_toArray, List.getElem_cons_zero, List.getElem_cons_succ, List.setIfInBounds_toArray, List.set_cons_zero, List.set_cons_succ]))
  (refine wpAnyH_ready (rs := [3]) (by kernel_rfl) (by simp) (AllReadyH.cons rfl (fun K hK => ?_) AllReadyH.nil); go_simp)
  refine (HX.out _ (below_drew1 HB2.out)).mono ?_
  rintro e w3 ⟨rfl, hb⟩
  have HB3 := Aside0.mk (below_step HB2.out (below_drew_of hb))
  clear hb
  (refine Shut.out hK _ _ trivial (fun hHeld => ?_); clear hK K; (try simp only [Act.put, List.getElem_toArray, List.getElem_cons_zero, List.getElem_cons_succ, List.setIfInBounds_toArray, List.set_cons_zero, List.set_cons_succ]))
  refine wpAnyH_ready (rs := [4, 8]) (by kernel_rfl) (by simp) (AllReadyH.cons rfl (fun K hK => ?_) (AllReadyH.cons rfl (fun K hK => ?_) AllReadyH.nil))
  · rw [if_pos (by rfl)]
    refine wp_sum1 (.tmp 14) rfl D rfl HD.out.lenC ?_
    have HO4 := Aside0.mk (Kd.R_lower (os_one HD.out w3) HB3.out.size)
    have HB4 := Aside0.mk (below_alloc HB3.out (.cells D.toArray 24))
    obtain ⟨v0, hv0⟩ : ∃ v, Value.slice (some (⟨w3.heap.size, 0, none⟩ : Addr)) 1 1 = v := ⟨_, rfl⟩
    rw [hv0] at HO4 ⊢
    clear hv0
    (refine Shut.out hK _ _ trivial (fun hHeld => ?_); clear hK K; (try simp only [Act.put, List.getElem_toArray, List.getElem_cons_zero, List.getElem_cons_succ, List.setIfInBounds_toArray, List.set_cons_zero, List.set_cons_succ]))
    (refine wpAnyH_ready (rs := [8]) (by kernel_rfl) (by simp) (AllReadyH.cons rfl (fun K hK => ?_) AllReadyH.nil); go_simp)
    refine (HQ.out _ HB4.out).mono ?_
    rintro e w5 ⟨v, rfl, ho, hb⟩
    have HO5 := Aside0.mk (Kd.R_below HO4.out hb)
    have HB5 := Aside0.mk (below_step HB4.out hb)
    obtain ⟨A5, c5, rfl, hc5, hr5⟩ := Kd.R_reads ho
    have HR5 := Aside0.mk hr5
    clear ho hb hc5 hr5
    (refine Shut.out hK _ _ trivial (fun hHeld => ?_); clear hK K; (try simp only [Act.put, List.getElem_toArray, List.getElem_cons_zero, List.getElem_cons_succ, List.setIfInBounds_toArray, List.set_cons_zero, List.set_cons_succ]))
    refine wpAnyH_ready (rs := [9]) (by kernel_rfl) (by simp) (AllReadyH.cons rfl (fun K hK => ?_) AllReadyH.nil)
    refine Kd.R_append_rows_step KS (w0 := w) w.heap.size rfl (.tmp 15) (.tmp 19) 52 24 (.agg Z32) 32 rfl Try.underlying52 info_sums rfl (by decide) (by omega) v0 [x] q _ _ _ (fun _ => True) (fun _ => False) rfl rfl HO5.out HR5.out (fun _ _ h => h) (fun _ h => h.elim) (fun _ _ => trivial) HB5.out HB5.out.size (by have := HQL.out; simp only [List.length_singleton]; omega) ?_
    intro v9 w9 ho hb hg hat
    have HO9 := Aside0.mk (show Os w9 w.heap.size v9 (x :: q) from ho)
    have HB9 := Aside0.mk hb
    clear ho hb hg hat
    (refine Shut.out hK _ _ trivial (fun hHeld => ?_); clear hK K; (try simp only [Act.put, List.getElem_toArray, List.getElem_cons_zero, List.getElem_cons_succ, List.setIfInBounds_toArray, List.set_cons_zero, List.set_cons_succ]))
    (refine wpAnyH_take (i := 10) (v := ?_) rfl (by kernel_rfl) (by kernel_rfl) (by kernel_rfl) (fun _ _ _ h => h) (Or.inl ⟨by rfl, ?_⟩) (by assumption) ?_; (case' refine_2 => (intro w hSw; go_simp; try with_reducible rfl)); (try simp only [Act.put, List.getElem_toArray, List.getElem_cons_zero, List.getElem_cons_succ, List.setIfInBounds_toArray, List.set_cons_zero, List.set_cons_succ]))
    refine wpAnyH_done (by kernel_rfl) ?_ _
    go_wp2_with (fail)
    go_ret
    exact ⟨_, rfl, HO9.out, HB9.out⟩
  · go_simp
    refine (HQ.out _ HB3.out).mono ?_
    rintro e w4 ⟨v, rfl, ho, hb⟩
    have HB4 := Aside0.mk (below_step HB3.out hb)
    obtain ⟨A5, c5, rfl, hc5, hr5⟩ := Kd.R_reads ho
    have HR4 := Aside0.mk hr5
    clear ho hb hc5 hr5
    (refine Shut.out hK _ _ trivial (fun hHeld => ?_); clear hK K; (try simp only [Act.put, List.getElem_toArray, List.getElem_cons_zero, List.getElem_cons_succ, List.setIfInBounds_toArray, List.set_cons_zero, List.set_cons_succ]))
    refine wpAnyH_ready (rs := [4]) (by kernel_rfl) (by simp) (AllReadyH.cons rfl (fun K hK => ?_) AllReadyH.nil)
    rw [if_pos (by rfl)]
    refine wp_sum1 (.tmp 14) rfl D rfl HD.out.lenC ?_
    have HO5 := Aside0.mk (Kd.R_lower (os_one HD.out w4) HB4.out.size)
    have HB5 := Aside0.mk (below_alloc HB4.out (.cells D.toArray 24))
    have HR5 := Aside0.mk (Kd.C_alloc HR4.out (.cells D.toArray 24))
    obtain ⟨v0, hv0⟩ : ∃ v, Value.slice (some (⟨w4.heap.size, 0, none⟩ : Addr)) 1 1 = v := ⟨_, rfl⟩
    rw [hv0] at HO5 ⊢
    clear hv0
    (refine Shut.out hK _ _ trivial (fun hHeld => ?_); clear hK K; (try simp only [Act.put, List.getElem_toArray, List.getElem_cons_zero, List.getElem_cons_succ, List.setIfInBounds_toArray, List.set_cons_zero, List.set_cons_succ]))
    refine wpAnyH_ready (rs := [9]) (by kernel_rfl) (by simp) (AllReadyH.cons rfl (fun K hK => ?_) AllReadyH.nil)
    refine Kd.R_append_rows_step KS (w0 := w) w.heap.size rfl (.tmp 15) (.tmp 19) 52 24 (.agg Z32) 32 rfl Try.underlying52 info_sums rfl (by decide) (by omega) v0 [x] q _ _ _ (fun _ => True) (fun _ => False) rfl rfl HO5.out HR5.out (fun _ _ h => h) (fun _ h => h.elim) (fun _ _ => trivial) HB5.out HB5.out.size (by have := HQL.out; simp only [List.length_singleton]; omega) ?_
    intro v9 w9 ho hb hg hat
    have HO9 := Aside0.mk (show Os w9 w.heap.size v9 (x :: q) from ho)
    have HB9 := Aside0.mk hb
    clear ho hb hg hat
    (refine Shut.out hK _ _ trivial (fun hHeld => ?_); clear hK K; (try simp only [Act.put, List.getElem_toArray, List.getElem_cons_zero, List.getElem_cons_succ, List.setIfInBounds_toArray, List.set_cons_zero, List.set_cons_succ]))
    (refine wpAnyH_take (i := 10) (v := ?_) rfl (by kernel_rfl) (by kernel_rfl) (by kernel_rfl) (fun _ _ _ h => h) (Or.inl ⟨by rfl, ?_⟩) (by assumption) ?_; (case' refine_2 => (intro w hSw; go_simp; try with_reducible rfl)); (try simp only [Act.put, List.getElem_toArray, List.getElem_cons_zero, List.getElem_cons_succ, List.setIfInBounds_toArray, List.set_cons_zero, List.set_cons_succ]))
    refine wpAnyH_done (by kernel_rfl) ?_ _
    go_wp2_with (fail)
    go_ret
    exact ⟨_, rfl, HO9.out, HB9.out⟩
set_option maxHeartbeats 4000000 in
set_option maxRecDepth 100000 in
theorem rfront_nil (A : Option Addr) (c : Nat) (w : World) :
    Calls Try.prog 41 #[.slice A 0 c] w (RetV w []) := by
  unfold RetV
  go_enter Try.func41, Try.ntmps41
  go_wp2_with (fail)
  go_ret
  exact ⟨_, rfl, Kd.R_nil _ _ _ _ _, Below.refl _ _⟩
theorem rfront_c : ∀ (n : Nat) (l : List Sm), l.length = n → n ≤ 1000000 → ∀ (A : Option Addr) (c : Nat) (w : World), Rs w A l → n ≤ c → Lu l →
    Calls Try.prog 41 #[.slice A n c] w (RetV w (frontT l)) := by
  intro n
  induction n using Nat.strongRecOn with
  | ind n ih =>
  intro l hn hm A c w hr hc hu
  by_cases h0 : n = 0
  · subst h0
    rw [List.length_eq_zero_iff.1 hn, frontT_nil]
    exact rfront_nil A c w
  · have hk := log2_le h0
    have hp : 0 < 2 ^ Nat.log2 n := Nat.pow_pos (by decide)
    rw [frontT, dif_neg (by omega), hn]
    exact rfront_step _ _ (rootT_len _) (Nat.le_trans (frontT_le _) (by rw [List.length_drop]; omega)) n (2 ^ Nat.log2 n) rfl hk h0 hm A c hc w
      (fun W hW => rroot_c (2 ^ Nat.log2 n) (l.take (2 ^ Nat.log2 n)) (by rw [List.length_take]; omega) (by omega) A c W (Rs.take (Kd.C_below hr hW) (by omega)) (by omega) (hu.take _))
      (fun W hW => ih (n - 2 ^ Nat.log2 n) (by omega) (l.drop (2 ^ Nat.log2 n)) (by rw [List.length_drop]; omega) (by omega) (restA A c (2 ^ Nat.log2 n)) (c - 2 ^ Nat.log2 n) W (Rs.drop (Kd.C_below hr hW) (by omega) (by omega)) (by omega) (hu.drop _))
end Go.Proofs.Ytbebkogkeepfoaa.Tree
/- The document's Fold. -/
namespace Go.Proofs.Ytbebkogkeepfoaa.Tree
set_option linter.unusedVariables false
set_option linter.unusedSimpArgs false
open Go.RowKit Go.Proofs.Ytbebkogkeepfoaa.Base Go.Proofs.Ytbebkogkeepfoaa.TlvPlain Go.Proofs.Ytbebkogkeepfoaa.ShaPlain Go.Proofs.Ytbebkogkeepfoaa.Sha Go.Proofs.Ytbebkogkeepfoaa.Com Go.Proofs.Ytbebkogkeepfoaa.Aid Go.Proofs.YtbebkogkeepfoaaW.PrintWords Go.Proofs.YtbebkogkeepfoaaW.PrintLast Go.Proofs.YtbebkogkeepfoaaW.PrintMore
set_option maxHeartbeats 4000000 in
set_option maxRecDepth 100000 in
theorem rfold_no (A : Option Addr) (m c : Nat) (n : Int) (h : rightB m n = false) (w : World) :
    Calls Try.prog 36 #[.slice A m c, .int .i64 n] w (Ret2 w Z false) := by
  have HZ := Aside0.mk (show (w.alloc (.cells Z32 24)).heap[w.heap.size]? = some (.cells Z32 24 (0, 0)) from blk_new _ _)
  have HB := Aside0.mk (below_alloc (Below.refl w.heap.size w) (.cells Z32 24))
  have HIF := Aside0.mk (show (Try.prog.info? 24).map (·.size) = some Z32.size from info_32)
  have HON := Aside0.mk (show Z32.all (·.oneCell') = true from nums_one _ _)
  show Calls _ _ _ _ (fun e w' => e = .returned (.tuple #[.agg Z32, .bool false]) ∧ Below w.heap.size w w')
  by_cases h0 : n < 0
  · have d0 : decide (n < 0) = true := decide_eq_true h0
    clear h h0
    go_enter Try.func36, Try.ntmps36
    go_wp2_with ((with_reducible refine gate_store (t := 24) (p := 4) (v := .tmp 21) rfl ?_); refine wpList_store_row rfl 24 (.tmp 4) (.tmp 21) rfl w.heap.size Z32 rfl rfl 24 Z32 HZ.out HIF.out rfl HON.out ?_)
    have HSR := setRow_heap _ w.heap.size Z32 Z32 _ _ HZ.out
    refine bodyPost_ret (results_ct rfl _ _ w.heap.size 24 Z32 (0, 0) _ rfl HSR Try.underlying24 rfl HIF.out) rfl ?_
    exact ⟨rfl, below_setRow HB.out (Nat.le_refl _) Z32⟩
  · have d0 : decide (n < 0) = false := decide_eq_false h0
    by_cases h1 : 1048576 < n
    · have d1 : decide (1048576 < n) = true := decide_eq_true h1
      clear h h0 h1
      go_enter Try.func36, Try.ntmps36
      go_wp2_with ((with_reducible refine gate_store (t := 24) (p := 4) (v := .tmp 21) rfl ?_); refine wpList_store_row rfl 24 (.tmp 4) (.tmp 21) rfl w.heap.size Z32 rfl rfl 24 Z32 HZ.out HIF.out rfl HON.out ?_)
      have HSR := setRow_heap _ w.heap.size Z32 Z32 _ _ HZ.out
      refine bodyPost_ret (results_ct rfl _ _ w.heap.size 24 Z32 (0, 0) _ rfl HSR Try.underlying24 rfl HIF.out) rfl ?_
      exact ⟨rfl, below_setRow HB.out (Nat.le_refl _) Z32⟩
    · obtain ⟨k, rfl⟩ : ∃ k : Nat, (k : Int) = n := ⟨n.toNat, by omega⟩
      have HC := Aside0.mk (fun W => rones_c k (by omega) W)
      have hne : m ≠ ones k := fun hh => by
        rw [rightB, Int.toNat_natCast, decide_eq_false_iff_not] at h
        exact h ⟨by omega, by omega, hh⟩
      have d1 : decide (1048576 < (k : Int)) = false := decide_eq_false h1
      have d2 : ((m : Int) != ((ones k : Nat) : Int)) = true := by rw [bne_iff_ne]; omega
      have d3 : (m != ones k) = true := by rw [bne_iff_ne]; exact hne
      have d4 : ((m : Int) == ((ones k : Nat) : Int)) = false := by rw [beq_eq_false_iff_ne]; omega
      clear h h0 h1 hne
      go_enter Try.func36, Try.ntmps36
      go_wp2_with (first | (go_at_call 63; refine (HC.out _).mono ?_; rintro e w2 ⟨rfl, hd⟩; have n1_ := Aside0.mk (blk_below HZ.out (Drawn0.below hd)); have n2_ := Aside0.mk (below_step HB.out (Drawn0.below hd)); clear HZ HB hd; have HZ := n1_; have HB := n2_; clear n1_ n2_) | ((with_reducible refine gate_store (t := 24) (p := 4) (v := .tmp 21) rfl ?_); refine wpList_store_row rfl 24 (.tmp 4) (.tmp 21) rfl w.heap.size Z32 rfl rfl 24 Z32 HZ.out HIF.out rfl HON.out ?_))
      have HSR := setRow_heap _ w.heap.size Z32 Z32 _ _ HZ.out
      refine bodyPost_ret (results_ct rfl _ _ w.heap.size 24 Z32 (0, 0) _ rfl HSR Try.underlying24 rfl HIF.out) rfl ?_
      exact ⟨rfl, below_setRow HB.out (Nat.le_refl _) Z32⟩
/-- The world in the rounds: the result's cells, and the sum so far. -/
structure FoldG (w : World) (g : Nat) (d : Sm) (W : World) : Prop where
  z : W.heap[w.heap.size]? = some (.cells Z32 24 (0, 0))
  d : W.heap[g]? = some (.cells (nums .u8 d).toArray 24 (0, 0))
  b : Below w.heap.size w W
  h : w.heap.size < g
set_option maxHeartbeats 4000000 in
set_option maxRecDepth 100000 in
theorem rfold_yes (f : List Sm) (m : Nat) (hl : f.length = m) (hu : Lu f) (hm : m ≤ 1000) (A : Option Addr) (c : Nat) (hc : m ≤ c) (n : Nat) (hn : n ≤ 1048576) (h : m = ones n) (w : World) (hr : Rs w A f) :
    Calls Try.prog 36 #[.slice A m c, .int .i64 (n : Int)] w (Ret2 w (foldF f) true) := by
  have HZ := Aside0.mk (show (w.alloc (.cells Z32 24)).heap[w.heap.size]? = some (.cells Z32 24 (0, 0)) from blk_new _ _)
  have HB := Aside0.mk (below_alloc (Below.refl w.heap.size w) (.cells Z32 24))
  have HIF := Aside0.mk (show (Try.prog.info? 24).map (·.size) = some Z32.size from info_32)
  have HON := Aside0.mk (show Z32.all (·.oneCell') = true from nums_one _ _)
  have HC := Aside0.mk (fun W => rones_c n (by omega) W)
  rw [← h] at HC
  have HF := Aside0.mk (And.intro hl (And.intro hu hm))
  have HRS := Aside0.mk hr
  have q1 : (m : Int) ≤ 1000 := by omega
  have q2 : (n : Int) ≤ 1048576 := by omega
  have q3 : (0 : Int) ≤ (m : Int) := by omega
  have q4 : ((m : Int) != (m : Int)) = false := by simp
  have q5 : ((m : Int) == (m : Int)) = true := by simp
  have q6 : decide (1048576 < (n : Int)) = false := decide_eq_false (by omega)
  have q7 : decide ((n : Int) < 0) = false := decide_eq_false (by omega)
  show Calls _ _ _ _ (fun e w' => e = .returned (.tuple #[sumV (foldF f), .bool true]) ∧ Below w.heap.size w w')
  clear hl hu hm hc hn h hr
  go_enter Try.func36, Try.ntmps36
  go_wp2_with (first
    | (go_at_call 63; refine (HC.out _).mono ?_; rintro e w2 ⟨rfl, hd⟩; have n1_ := Aside0.mk (blk_below HZ.out (Drawn0.below hd)); have n2_ := Aside0.mk (below_step HB.out (Drawn0.below hd)); clear HZ HB hd; have HZ := n1_; have HB := n2_; clear n1_ n2_)
    | ((with_reducible refine gate_store (t := 24) (p := 6) (v := .tmp 22) rfl ?_); refine wpList_store_row rfl 24 (.tmp 6) (.tmp 22) rfl _ Z32 rfl rfl 24 Z32 (blk_new _ _) HIF.out rfl HON.out ?_))
  have H0 := Aside0.mk (show FoldG w w2.heap.size (foldF (f.drop m)) ((w2.alloc (.cells Z32 24)).setRow w2.heap.size Z32) from by
    have h1 := (Array.getElem?_eq_some_iff.1 HZ.out).1
    rw [List.drop_of_length_le (Nat.le_of_eq HF.out.1)]
    exact ⟨(setRow_other _ _ _ Z32 (by omega)).trans (blk_alloc HZ.out _), setRow_heap _ _ Z32 Z32 _ _ (blk_new _ _), below_setRow (below_alloc HB.out _) (by omega) Z32, h1⟩)
  obtain ⟨g, hg⟩ : ∃ g, w2.heap.size = g := ⟨_, rfl⟩
  rw [hg] at H0 ⊢
  clear hg HZ HB
  go_loopw [7] (fun i wx => ∃ k : Nat, k ≤ m ∧ i = .int .i64 ((k : Int) - 1) ∧ FoldG w g (foldF (f.drop k)) wx) (fun i _ => (intOf i + 1).toNat)
  case atStart => exact ⟨m, Nat.le_refl _, rfl, H0.out⟩
  case round =>
    clear H0
    obtain ⟨k, hk, rfl, hinv⟩ := hrel
    have HI := Aside0.mk hinv
    clear hinv
    obtain ⟨W, hwy⟩ : ∃ wy, wy = wr := ⟨_, rfl⟩
    subst hwy
    obtain ⟨d, hd⟩ : ∃ d, foldF (f.drop k) = d := ⟨_, rfl⟩
    have hul : Lu (f.drop k) := HF.out.2.1.drop _
    have hdl : d.length = 32 := by rw [← hd]; exact foldF_len _ hul
    have hdu : U8' d := by rw [← hd]; exact foldF_u8 _ hul
    rw [hd] at HI
    obtain ⟨D, hD⟩ := sumF d hdl
    have HD := Aside0.mk hD
    have HZ := Aside0.mk HI.out.z
    have HY := Aside0.mk (show W.heap[g]? = some (.cells D 24 (0, 0)) from by rw [← hD.eq]; exact HI.out.d)
    have HB := Aside0.mk HI.out.b
    have HDI := Aside0.mk hD.info
    have HG := Aside0.mk HI.out.h
    cases k with
    | zero =>
      rw [show ((0 : Nat) : Int) - 1 = -1 by omega]
      have HDE := Aside0.mk (show foldF f = d from hd)
      clear hD hd hdl hdu hul hk
      go_wp2_with (first
        | ((with_reducible refine gate_dst (N := 46) rfl ?_); refine wpList_load_row rfl 24 (.tmp 6) rfl g rfl 24 D (0, 0) _ (by exact HY.out) Try.underlying24 rfl HDI.out ?_)
        | ((with_reducible refine gate_store (t := 24) (p := 4) (v := .tmp 46) rfl ?_); refine wpList_store_row rfl 24 (.tmp 4) (.tmp 46) rfl w.heap.size D rfl rfl 24 Z32 HZ.out HDI.out HD.out.zs HD.out.one ?_))
      have HSR := setRow_heap W w.heap.size Z32 D _ _ HZ.out
      refine bodyPost_ret (results_ct rfl _ _ w.heap.size 24 D (0, 0) _ rfl HSR Try.underlying24 rfl HDI.out) rfl ?_
      exact ⟨by rw [HDE.out, HD.out.v]; rfl, below_setRow HB.out (Nat.le_refl _) D⟩
    | succ j =>
      rw [show ((j + 1 : Nat) : Int) - 1 = (j : Int) by omega]
      obtain ⟨ad, rfl, hat, hal⟩ := rs_at HRS.out j (by have := HF.out.1; omega)
      have hxu := (HF.out.2.1 _ (List.getElem_mem (show j < f.length by have := HF.out.1; omega))).2
      obtain ⟨x, hx⟩ : ∃ x, f[j]'(by have := HF.out.1; omega) = x := ⟨_, rfl⟩
      rw [hx] at hat hal hxu
      obtain ⟨X, hX⟩ := sumF x hal
      have HXI := Aside0.mk hX.infoL
      have HXE := Aside0.mk hX.eq
      have HXJ := Aside0.mk hX.info
      have HXO := Aside0.mk hX.one
      have HXZ := Aside0.mk (show D.size = X.size from by rw [← hD.zs, ← hX.zs])
      have HAT := Aside0.mk (show AtC W (ad.add (j * 32)) (nums .u8 x) from hat.below HI.out.b)
      have HATw := Aside0.mk hat
      have HK := Aside0.mk hk
      have p1 : (0 : Int) ≤ (j : Int) := by omega
      have p2 : (j : Int) < (m : Int) := by omega
      have p3 : decide ((0 : Int) ≤ (j : Int)) = true := decide_eq_true p1
      have p4 : (j : Int) ≤ 1000 := by omega
      by_cases hjm : j + 1 = m
      · have e1 : ((j : Int) == (m : Int) - 1) = true := by rw [beq_iff_eq]; omega
        have HFD := Aside0.mk (show foldF (f.drop j) = x from by
          rw [List.drop_eq_getElem_cons (show j < f.length by have := HF.out.1; omega), List.drop_of_length_le (by have := HF.out.1; omega), hx]; rfl)
        clear hD hd hdl hdu hul hk hat hal hxu hx hX hjm
        go_wp2_with (first
          | ((with_reducible refine gate_dst (N := 38) rfl ?_); refine wpList_load_at rfl 24 (.tmp 37) rfl _ rfl (nums .u8 x) _ HAT.out Try.underlying24 rfl HXI.out ?_; rw [HXE.out])
          | ((with_reducible refine gate_store (t := 24) (p := 6) (v := .tmp 38) rfl ?_); refine wpList_store_row rfl 24 (.tmp 6) (.tmp 38) rfl g X rfl rfl 24 D HY.out HXJ.out HXZ.out HXO.out ?_))
        have HF2 := Aside0.mk (show FoldG w g (foldF (f.drop j)) (W.setRow g X) from by
          rw [HFD.out]
          refine ⟨(setRow_other _ _ _ X (by have := HG.out; omega)).trans HZ.out, ?_, below_setRow HB.out (Nat.le_of_lt HG.out) X, HG.out⟩
          rw [HXE.out]
          exact setRow_heap _ _ D X _ _ HY.out)
        go_roundw
        case rel => exact ⟨j, by have := HK.out; omega, rfl, HF2.out⟩
        case measure => simp [intOf]
      · have e1 : ((j : Int) == (m : Int) - 1) = false := by rw [beq_eq_false_iff_ne]; omega
        have hFD := foldF_drop f j (by have := HF.out.1; omega)
        rw [hx, hd] at hFD
        have HFD := Aside0.mk hFD
        obtain ⟨E, hE⟩ := sumF (nodeH x d) (nodeH_len _ _)
        have HT := Aside0.mk (rnodex_c x d hal hdl)
        have HS := Aside0.mk (rof_o (nodeX x d) (nodeX_u8 hxu hdu) (by rw [nodeX_len hal hdl]; decide))
        unfold MakesU at HT
        unfold Ret at HS
        rw [hX.v, hD.v] at HT
        rw [← nodeH_eq, hE.v] at HS
        have HEI := Aside0.mk hE.info
        have HEE := Aside0.mk hE.eq
        have HEO := Aside0.mk hE.one
        have HEZ := Aside0.mk (show D.size = E.size from by rw [← hD.zs, ← hE.zs])
        have HY0 := Aside0.mk (show W.drew.heap[g]? = some (.cells D 24 (0, 0)) from HY.out)
        have hu24 := Try.underlying24
        clear hD hd hdl hdu hul hk hat hal hxu hx hX hjm hFD hE
        go_wp2_with (fail)
        refine wp_region_held_drew (S := fun w' => AtC w' (ad.add (j * 32)) (nums .u8 x)) (by kernel_rfl) HAT.out (fun hHeld => ?_)
        (refine wpAnyH_take (i := 0) (v := ?_) rfl (by kernel_rfl) (by kernel_rfl) (by kernel_rfl) (fun _ _ _ h => h) (Or.inl ⟨by rfl, ?_⟩) (by assumption) ?_; (case' refine_2 => (intro w hSw; go_simp; try with_reducible rfl)); (try simp only [Act.put, List.getElem_toArray, List.getElem_cons_zero, List.getElem_cons_succ, List.setIfInBounds_toArray, List.set_cons_zero, List.set_cons_succ]))
        (refine wpAnyH_take (i := 1) (v := ?_) rfl (by kernel_rfl) (by kernel_rfl) (by kernel_rfl) (fun _ _ _ h => h) (Or.inl ⟨by rfl, ?_⟩) (by assumption) ?_; (case' refine_2 => (intro w hSw; go_simp; try with_reducible rfl)); (try simp only [Act.put, List.getElem_toArray, List.getElem_cons_zero, List.getElem_cons_succ, List.setIfInBounds_toArray, List.set_cons_zero, List.set_cons_succ]))
        (refine wpAnyH_take (i := 2) (v := ?_) rfl (by kernel_rfl) (by kernel_rfl) (by kernel_rfl) (fun _ _ _ h => h) (Or.inl ⟨by rfl, ?_⟩) (by assumption) ?_; (case' refine_2 => (intro w hSw; go_simp; try with_reducible rfl)); (try simp only [Act.put, List.getElem_toArray, List.getElem_cons_zero, List.getElem_cons_succ, List.setIfInBounds_toArray, List.set_cons_zero, List.set_cons_succ]))
        (refine wpAnyH_take (i := 3) rfl (by kernel_rfl) (by kernel_rfl) (by kernel_rfl) (fun _ _ _ h => h) (yieldsIf_load_at (by rfl) _ _ rfl (ad.add (j * 32)) rfl (nums .u8 x) _ (fun _ h => h) (by assumption) rfl HXI.out) (by assumption) ?_; (try simp only [Act.put, List.getElem_toArray, List.getElem_cons_zero, List.getElem_cons_succ, List.setIfInBounds_toArray, List.set_cons_zero, List.set_cons_succ]))
        rw [HXE.out]
        refine wpAnyH_ready (rs := [4]) (by kernel_rfl) (by simp) (AllReadyH.cons rfl (fun K hK => ?_) AllReadyH.nil)
        rw [if_pos (by rfl)]
        refine wp_load_row 24 (.tmp 6) rfl g rfl 24 D (0, 0) _ HY0.out hu24 rfl HDI.out ?_
        (refine Shut.out hK _ _ HAT.out (fun hHeld => ?_); clear hK K; (try simp only [Act.put, List.getElem_toArray, List.getElem_cons_zero, List.getElem_cons_succ, List.setIfInBounds_toArray, List.set_cons_zero, List.set_cons_succ]))
        (refine wpAnyH_ready (rs := [5]) (by kernel_rfl) (by simp) (AllReadyH.cons rfl (fun K hK => ?_) AllReadyH.nil); go_simp)
        refine (HT.out _).mono ?_
        rintro e w3 ⟨v, rfl, ho, hb⟩
        have hbd := below_drew_of hb
        have HZ3 := Aside0.mk (blk_below HZ.out hbd)
        have HY3 := Aside0.mk (blk_below HY0.out hb)
        have HB3 := Aside0.mk (below_step HB.out hbd)
        have HAT3 := Aside0.mk (HAT.out.below hbd)
        have HS3 := Aside0.mk (HS.out _ v w3 ho)
        clear hb hbd ho
        (refine Shut.out hK _ _ HAT3.out (fun hHeld => ?_); clear hK K; (try simp only [Act.put, List.getElem_toArray, List.getElem_cons_zero, List.getElem_cons_succ, List.setIfInBounds_toArray, List.set_cons_zero, List.set_cons_succ]))
        (refine wpAnyH_ready (rs := [6]) (by kernel_rfl) (by simp) (AllReadyH.cons rfl (fun K hK => ?_) AllReadyH.nil); go_simp)
        refine HS3.out.mono ?_
        rintro e w4 ⟨rfl, hb⟩
        have HZ4 := Aside0.mk (blk_below HZ3.out hb)
        have HY4 := Aside0.mk (blk_below HY3.out hb)
        have HB4 := Aside0.mk (below_step HB3.out hb)
        have HAT4 := Aside0.mk (HAT3.out.below hb)
        have HAT5 := Aside0.mk (show AtC (w4.setRow g E) (ad.add (j * 32)) (nums .u8 x) from HATw.out.below (below_setRow HB4.out (Nat.le_of_lt HG.out) E))
        clear hb
        (refine Shut.out hK _ _ HAT4.out (fun hHeld => ?_); clear hK K; (try simp only [Act.put, List.getElem_toArray, List.getElem_cons_zero, List.getElem_cons_succ, List.setIfInBounds_toArray, List.set_cons_zero, List.set_cons_succ]))
        refine wpAnyH_ready (rs := [7]) (by kernel_rfl) (by simp) (AllReadyH.cons rfl (fun K hK => ?_) AllReadyH.nil)
        rw [if_pos (by rfl)]
        refine wp_store_row 24 (.tmp 6) (.tmp 45) rfl g E rfl rfl 24 D HY4.out HEI.out HEZ.out HEO.out ?_
        (refine Shut.out hK _ _ HAT5.out (fun hHeld => ?_); clear hK K; (try simp only [Act.put, List.getElem_toArray, List.getElem_cons_zero, List.getElem_cons_succ, List.setIfInBounds_toArray, List.set_cons_zero, List.set_cons_succ]))
        refine wpAnyH_done (by kernel_rfl) ?_ _
        have HF2 := Aside0.mk (show FoldG w g (foldF (f.drop j)) (w4.setRow g E) from by
          rw [HFD.out]
          refine ⟨(setRow_other _ _ _ E (by have := HG.out; omega)).trans HZ4.out, ?_, below_setRow HB4.out (Nat.le_of_lt HG.out) E, HG.out⟩
          rw [HEE.out]
          exact setRow_heap _ _ D E _ _ HY4.out)
        go_wp2_with (fail)
        go_roundw
        case rel => exact ⟨j, by have := HK.out; omega, rfl, HF2.out⟩
        case measure => simp [intOf]
theorem rfold_c (f : List Sm) (m : Nat) (hl : f.length = m) (hu : Lu f) (hm : m ≤ 1000) (A : Option Addr) (c : Nat) (hc : m ≤ c) (n : Int) (w : World) (hr : Rs w A f) :
    Calls Try.prog 36 #[.slice A m c, .int .i64 n] w (Ret2 w (if rightB m n = true then foldF f else Z) (rightB m n)) := by
  cases h : rightB m n with
  | false =>
    rw [if_neg Bool.false_ne_true]
    exact rfold_no A m c n h w
  | true =>
    rw [if_pos rfl]
    obtain ⟨h1, h2, h3⟩ := rightB_yes h
    obtain ⟨k, rfl⟩ : ∃ k : Nat, (k : Int) = n := ⟨n.toNat, by omega⟩
    rw [Int.toNat_natCast] at h3
    exact rfold_yes f m hl hu hm A c hc k (by omega) h3 w hr
end Go.Proofs.Ytbebkogkeepfoaa.Tree
/- The law's Same. -/
namespace Go.Proofs.Ytbebkogkeepfoaa.Tree
set_option linter.unusedVariables false
set_option linter.unusedSimpArgs false
open Go.RowKit Go.Proofs.Ytbebkogkeepfoaa.Base Go.Proofs.Ytbebkogkeepfoaa.TlvPlain Go.Proofs.Ytbebkogkeepfoaa.ShaPlain Go.Proofs.Ytbebkogkeepfoaa.Sha Go.Proofs.Ytbebkogkeepfoaa.Com Go.Proofs.Ytbebkogkeepfoaa.Aid Go.Proofs.YtbebkogkeepfoaaW.PrintWords Go.Proofs.YtbebkogkeepfoaaW.PrintLast Go.Proofs.YtbebkogkeepfoaaW.PrintMore
set_option maxHeartbeats 4000000 in
set_option maxRecDepth 100000 in
theorem same_c (a b : List Sm) (A0 A1 : Option Addr) (c0 c1 : Nat) (w : World) (h0 : Rs w A0 a) (h1 : Rs w A1 b) (hl : a.length ≤ 1000000) (hl2 : b.length ≤ 1000000) :
    Calls Try.prog 43 #[.slice A0 a.length c0, .slice A1 b.length c1] w (RetB w (decide (a = b))) := by
  unfold RetB
  have H0 := Aside0.mk h0
  have H1 := Aside0.mk h1
  have HB := Aside0.mk (Below.refl w.heap.size w)
  by_cases hn : a.length = b.length
  · obtain ⟨m, hm⟩ : ∃ m, a.length = m := ⟨_, rfl⟩
    have hm2 : b.length = m := by omega
    rw [hm, hm2]
    have HM := Aside0.mk hm
    have HM2 := Aside0.mk hm2
    rw [hm] at hl
    have q0 : (m : Int) ≤ 1000000 := by omega
    have q1 : ((m : Int) != (m : Int)) = false := by simp
    clear h0 h1 hn hm hm2 hl2 hl
    go_enter Try.func43, Try.ntmps43
    go_wp2_with (fail)
    go_loopw [5] (fun i wr => ∃ k : Nat, k ≤ m ∧ i = .int .i64 k ∧ Aside0 (a.take k = b.take k) ∧ Below w.heap.size w wr) (fun i _ => m - (intOf i).toNat)
    case atStart => exact ⟨0, Nat.zero_le _, rfl, ⟨rfl⟩, HB.out⟩
    case round =>
      clear HB
      obtain ⟨k, hk, rfl, HE, hb⟩ := hrel
      have HB := Aside0.mk hb
      clear hb
      obtain ⟨W, hwy⟩ : ∃ wy, wy = wr := ⟨_, rfl⟩
      subst hwy
      by_cases hlt : k < m
      · obtain ⟨ad0, rfl, hx, hxl⟩ := rs_at H0.out k (by have := HM.out; omega)
        obtain ⟨ad1, rfl, hy, hyl⟩ := rs_at H1.out k (by have := HM2.out; omega)
        have HX := Aside0.mk (take_snoc a k (by have := HM.out; omega))
        have HY := Aside0.mk (take_snoc b k (by have := HM2.out; omega))
        obtain ⟨x, hxx⟩ : ∃ x, a[k]'(by have := HM.out; omega) = x := ⟨_, rfl⟩
        obtain ⟨y, hyy⟩ : ∃ y, b[k]'(by have := HM2.out; omega) = y := ⟨_, rfl⟩
        rw [hxx] at hx hxl HX
        rw [hyy] at hy hyl HY
        obtain ⟨X, hX⟩ := sumF x hxl
        obtain ⟨Y, hY⟩ := sumF y hyl
        have HXI := Aside0.mk hX.infoL
        have HXE := Aside0.mk hX.eq
        have HYI := Aside0.mk hY.infoL
        have HYE := Aside0.mk hY.eq
        have HAX := Aside0.mk (show AtC W (ad0.add (k * 32)) (nums .u8 x) from hx.below HB.out)
        have HAY := Aside0.mk (show AtC W (ad1.add (k * 32)) (nums .u8 y) from hy.below HB.out)
        have hk0 : (0 : Int) ≤ (k : Int) := by omega
        have hk1 : (k : Int) < (m : Int) := by omega
        have heq := run_eq_sum x y hxl hyl
        rw [hX.v, hY.v] at heq
        have hguard := guard_32
        have hu24 := Try.underlying24
        obtain ⟨bb, hbb⟩ : ∃ bb, decide (x = y) = bb := ⟨_, rfl⟩
        rw [hbb] at heq
        have HBB := Aside0.mk hbb
        have HK := Aside0.mk hlt
        clear hx hy hxl hyl hX hY hxx hyy hbb hk hlt
        go_wp2_with (fail)
        refine wp_region_held_drew (S := fun w' => AtC w' (ad0.add (k * 32)) (nums .u8 x) ∧ AtC w' (ad1.add (k * 32)) (nums .u8 y)) (by kernel_rfl) (And.intro HAX.out HAY.out) (fun hHeld => ?_)
        (refine wpAnyH_take (i := 0) (v := ?_) rfl (by kernel_rfl) (by kernel_rfl) (by kernel_rfl) (fun _ _ _ h => h) (Or.inl ⟨by rfl, ?_⟩) (by assumption) ?_; (case' refine_2 => (intro w hSw; go_simp; try with_reducible rfl)); (try simp only [Act.put, List.getElem_toArray, List.getElem_cons_zero, List.getElem_cons_succ, List.setIfInBounds_toArray, List.set_cons_zero, List.set_cons_succ]))
        (refine wpAnyH_take (i := 1) (v := ?_) rfl (by kernel_rfl) (by kernel_rfl) (by kernel_rfl) (fun _ _ _ h => h) (Or.inl ⟨by rfl, ?_⟩) (by assumption) ?_; (case' refine_2 => (intro w hSw; go_simp; try with_reducible rfl)); (try simp only [Act.put, List.getElem_toArray, List.getElem_cons_zero, List.getElem_cons_succ, List.setIfInBounds_toArray, List.set_cons_zero, List.set_cons_succ]))
        (refine wpAnyH_take (i := 2) (v := ?_) rfl (by kernel_rfl) (by kernel_rfl) (by kernel_rfl) (fun _ _ _ h => h) (Or.inl ⟨by rfl, ?_⟩) (by assumption) ?_; (case' refine_2 => (intro w hSw; go_simp; try with_reducible rfl)); (try simp only [Act.put, List.getElem_toArray, List.getElem_cons_zero, List.getElem_cons_succ, List.setIfInBounds_toArray, List.set_cons_zero, List.set_cons_succ]))
        (refine wpAnyH_take (i := 3) rfl (by kernel_rfl) (by kernel_rfl) (by kernel_rfl) (fun _ _ _ h => h) (yieldsIf_load_at (by rfl) _ _ rfl (ad0.add (k * 32)) rfl (nums .u8 x) _ (fun _ h => h.1) (by assumption) rfl HXI.out) (by assumption) ?_; (try simp only [Act.put, List.getElem_toArray, List.getElem_cons_zero, List.getElem_cons_succ, List.setIfInBounds_toArray, List.set_cons_zero, List.set_cons_succ]))
        rw [HXE.out]
        (refine wpAnyH_take (i := 4) (v := ?_) rfl (by kernel_rfl) (by kernel_rfl) (by kernel_rfl) (fun _ _ _ h => h) (Or.inl ⟨by rfl, ?_⟩) (by assumption) ?_; (case' refine_2 => (intro w hSw; go_simp; try with_reducible rfl)); (try simp only [Act.put, List.getElem_toArray, List.getElem_cons_zero, List.getElem_cons_succ, List.setIfInBounds_toArray, List.set_cons_zero, List.set_cons_succ]))
        (refine wpAnyH_take (i := 5) (v := ?_) rfl (by kernel_rfl) (by kernel_rfl) (by kernel_rfl) (fun _ _ _ h => h) (Or.inl ⟨by rfl, ?_⟩) (by assumption) ?_; (case' refine_2 => (intro w hSw; go_simp; try with_reducible rfl)); (try simp only [Act.put, List.getElem_toArray, List.getElem_cons_zero, List.getElem_cons_succ, List.setIfInBounds_toArray, List.set_cons_zero, List.set_cons_succ]))
        (refine wpAnyH_take (i := 6) (v := ?_) rfl (by kernel_rfl) (by kernel_rfl) (by kernel_rfl) (fun _ _ _ h => h) (Or.inl ⟨by rfl, ?_⟩) (by assumption) ?_; (case' refine_2 => (intro w hSw; go_simp; try with_reducible rfl)); (try simp only [Act.put, List.getElem_toArray, List.getElem_cons_zero, List.getElem_cons_succ, List.setIfInBounds_toArray, List.set_cons_zero, List.set_cons_succ]))
        (refine wpAnyH_take (i := 7) rfl (by kernel_rfl) (by kernel_rfl) (by kernel_rfl) (fun _ _ _ h => h) (yieldsIf_load_at (by rfl) _ _ rfl (ad1.add (k * 32)) rfl (nums .u8 y) _ (fun _ h => h.2) (by assumption) rfl HYI.out) (by assumption) ?_; (try simp only [Act.put, List.getElem_toArray, List.getElem_cons_zero, List.getElem_cons_succ, List.setIfInBounds_toArray, List.set_cons_zero, List.set_cons_succ]))
        rw [HYE.out]
        (refine wpAnyH_take (i := 8) (v := ?_) rfl (by kernel_rfl) (by kernel_rfl) (by kernel_rfl) (fun _ _ _ h => h) (Or.inl ⟨by rfl, ?_⟩) (by assumption) ?_; (case' refine_2 => (intro w hSw; go_simp; try with_reducible rfl)); (try simp only [Act.put, List.getElem_toArray, List.getElem_cons_zero, List.getElem_cons_succ, List.setIfInBounds_toArray, List.set_cons_zero, List.set_cons_succ]))
        refine wpAnyH_done (by kernel_rfl) ?_ _
        have HB2 := Aside0.mk (below_drew1 HB.out)
        cases bb with
        | false =>
          have HF := Aside0.mk (show a ≠ b from fun h => by
            have h1 := HX.out
            rw [h, HY.out, ← h, HE.out] at h1
            have := List.append_cancel_left h1
            simp at this
            exact (of_decide_eq_false HBB.out) this.symm)
          clear heq
          go_wp2_with (fail)
          go_ret
          exact ⟨(congrArg (fun b => Ending.returned (Value.bool b)) (decide_eq_false HF.out).symm), HB2.out⟩
        | true =>
          have HEQ := Aside0.mk (show a.take (k + 1) = b.take (k + 1) from by rw [HX.out, HY.out, HE.out, of_decide_eq_true HBB.out])
          clear heq
          go_wp2_with (fail)
          go_roundw
          case rel => exact ⟨k + 1, by have := HK.out; omega, by go_num, HEQ, HB2.out⟩
          case measure => have := HK.out; simp [intOf]; omega
      · have hkm : k = m := by omega
        subst hkm
        have HF := Aside0.mk (show a = b by
          have h := HE.out
          rwa [List.take_of_length_le (by have := HM.out; omega), List.take_of_length_le (by have := HM2.out; omega)] at h)
        clear hlt hk
        go_wp2_with (fail)
        go_ret
        exact ⟨(congrArg (fun b => Ending.returned (Value.bool b)) (decide_eq_true HF.out).symm), HB.out⟩
  · have HF := Aside0.mk (show a ≠ b from fun h => hn (by rw [h]))
    have e1 : ((a.length : Int) == (b.length : Int)) = false := by rw [beq_eq_false_iff_ne]; omega
    have e2 : ((a.length : Int) != (b.length : Int)) = true := by rw [bne_iff_ne]; omega
    have e3 : (a.length == b.length) = false := by rw [beq_eq_false_iff_ne]; exact hn
    have hn2 : ¬ a.length = b.length := hn
    clear h0 h1 hl hl2 hn
    go_enter Try.func43, Try.ntmps43
    go_wp2_with (fail)
    go_ret
    exact ⟨(congrArg (fun b => Ending.returned (Value.bool b)) (decide_eq_false HF.out).symm), HB.out⟩
end Go.Proofs.Ytbebkogkeepfoaa.Tree
/- tree.Check's contract; the law's example. -/
namespace Go.Proofs.Ytbebkogkeepfoaa.Tree
set_option linter.unusedVariables false
set_option linter.unusedSimpArgs false
open Go.RowKit Go.Proofs.Ytbebkogkeepfoaa.Base Go.Proofs.Ytbebkogkeepfoaa.TlvPlain Go.Proofs.Ytbebkogkeepfoaa.ShaPlain Go.Proofs.Ytbebkogkeepfoaa.Sha Go.Proofs.Ytbebkogkeepfoaa.Com Go.Proofs.Ytbebkogkeepfoaa.Aid Go.Proofs.YtbebkogkeepfoaaW.PrintWords Go.Proofs.YtbebkogkeepfoaaW.PrintLast Go.Proofs.YtbebkogkeepfoaaW.PrintMore
/-- Whether a leaf checks. -/
def checkT (root leaf : Sm) (i n : Int) (p : List Sm) : Bool :=
  decide (0 ≤ i ∧ i < n ∧ n ≤ 1048576) && ((upN leaf i.toNat n.toNat p.reverse).2.1 && decide ((upN leaf i.toNat n.toNat p.reverse).1 = root))
theorem check_c (root leaf : Sm) (hr : root.length = 32) (hl : leaf.length = 32) (hu : U8' leaf) (i n : Int) (p : List Sm) (hp : p.length ≤ 1000000000) (hpu : Lu p) (A : Option Addr) (c : Nat) (hc : p.length ≤ c) (w : World) (hrs : Rs w A p) :
    Calls Try.prog 30 #[sumV root, sumV leaf, .int .i64 i, .int .i64 n, .slice A p.length c] w (RetB w (checkT root leaf i n p)) := by
  unfold checkT
  by_cases h : 0 ≤ i ∧ i < n ∧ n ≤ 1048576
  · rw [decide_eq_true h, Bool.true_and]
    obtain ⟨k, rfl⟩ : ∃ k : Nat, (k : Int) = i := ⟨i.toNat, by omega⟩
    obtain ⟨m, rfl⟩ : ∃ m : Nat, (m : Int) = n := ⟨n.toNat, by omega⟩
    rw [Int.toNat_natCast, Int.toNat_natCast]
    refine chk_good root leaf hr hl (k : Int) (m : Int) h.1 h.2.1 h.2.2 A p.length c w _ (upN_len _ _ _ _) _ (fun W hW => ?_)
    have h2 := up_c leaf hl hu p.reverse k m (by omega) (by omega) (by rw [List.length_reverse]; exact hp) A c W (by rw [List.reverse_reverse]; exact Kd.C_below hrs hW) (by rw [List.length_reverse]; exact hc) (fun x hx => hpu x (List.mem_reverse.1 hx))
    rwa [List.length_reverse] at h2
  · rw [decide_eq_false h, Bool.false_and]
    exact chk_bad root leaf hr hl i n (by omega) A p.length c w
theorem check_path (l : List Sm) (i : Nat) (hi : i < l.length) (hm : l.length ≤ 1048576) : checkT (rootT l) (l.getD i Z) (i : Int) (l.length : Int) (pathT l i) = true := by
  have h := path_up l i hi
  unfold checkT
  rw [Int.toNat_natCast, Int.toNat_natCast, h.1, h.2, decide_eq_true (by omega)]
  simp
theorem pathT_lu (l : List Sm) (i : Nat) : Lu (pathT l i) := by
  generalize hn : l.length = n
  induction n using Nat.strongRecOn generalizing l i with
  | ind n ih =>
    rw [pathT]
    split
    · exact fun x hx => by cases hx
    · next h1 =>
      have hb := hlf_lt (n := l.length) (by omega)
      have hp := hlf_pos l.length
      have one : ∀ q : List Sm, Lu [rootT q] := fun q x hx => by rw [List.mem_singleton.1 hx]; exact ⟨rootT_len _, rootT_u8 _⟩
      split
      · exact fun x hx => (List.mem_append.1 hx).elim (ih (hlf l.length) (by omega) (l.take (hlf l.length)) i (by rw [List.length_take]; omega) x) (one _ x)
      · exact fun x hx => (List.mem_append.1 hx).elim (ih (n - hlf l.length) (by omega) (l.drop (hlf l.length)) (i - hlf l.length) (by rw [List.length_drop]; omega) x) (one _ x)
theorem frontT_lu (l : List Sm) : Lu (frontT l) := by
  generalize hn : l.length = n
  induction n using Nat.strongRecOn generalizing l with
  | ind n ih =>
    rw [frontT]
    split
    · exact fun x hx => by cases hx
    · next h0 =>
      have hp : 0 < 2 ^ Nat.log2 l.length := Nat.pow_pos (by decide)
      intro x hx
      rcases List.mem_cons.1 hx with rfl | hx
      · exact ⟨rootT_len _, rootT_u8 _⟩
      · exact ih (l.drop (2 ^ Nat.log2 l.length)).length (by rw [List.length_drop]; omega) _ rfl x hx
theorem run_sum2 (W : World) (a b : List Value) (ha : a.length = 32) (hb : b.length = 32) : (Instr.buildSlice 52 2 #[(0, .agg a.toArray), (1, .agg b.toArray)]).run Try.prog W = .ok (.slice (some ⟨W.heap.size, 0, none⟩) 2 2) (W.alloc (.cells (a ++ b).toArray 24)) := by
  have h := run_sums W [a, b] (fun x hx => by
    rcases List.mem_cons.1 hx with rfl | hx
    · exact ha
    · rw [List.mem_singleton.1 hx]; exact hb) (by simp) (by simp)
  rw [show [a, b].flatten = a ++ b from by simp] at h
  exact h
theorem wpList_sum2 {ops : Array Oper} {rest : List Oper} {o : Oper} {a : Act} {w : World} {Q : Exit → Act → World → Prop} (hg : o.guard = none) (x y : Operand) (ho : o.op = .buildSlice 52 2 #[(0, x), (1, y)]) (cs ds : List Value) (hx : a.eval x = .agg cs.toArray) (hy : a.eval y = .agg ds.toArray) (hc : cs.length = 32) (hd : ds.length = 32)
    (h : wpList Try.prog ops Q rest (a.put o.dst (.slice (some ⟨w.heap.size, 0, none⟩) 2 2)) (w.alloc (.cells (cs ++ ds).toArray 24))) : wpList Try.prog ops Q (o :: rest) a w :=
  wpList_plain hg fun _ hK => by
    have hp : (#[((0 : Nat), x), (1, y)].map fun (i, z) => (i, a.eval z)) = #[(0, .agg cs.toArray), (1, .agg ds.toArray)] := by simp [hx, hy]
    unfold Oper.wp execOp
    simp only [ho, hp, Sem.run_bind, run_sum2 w cs ds hc hd, Result.andThen_ok]
    exact hK _ _ h
theorem wp_sum2 {o : Oper} {a : Act} {w : World} {K : Act → World → Prop} {Q : Exit → Act → World → Prop} (x y : Operand) (ho : o.op = .buildSlice 52 2 #[(0, x), (1, y)]) (cs ds : List Value) (hx : a.eval x = .agg cs.toArray) (hy : a.eval y = .agg ds.toArray) (hc : cs.length = 32) (hd : ds.length = 32)
    (h : K (a.put o.dst (.slice (some ⟨w.heap.size, 0, none⟩) 2 2)) (w.alloc (.cells (cs ++ ds).toArray 24))) : Oper.wp Try.prog o a w K Q := by
  have hp : (#[((0 : Nat), x), (1, y)].map fun (i, z) => (i, a.eval z)) = #[(0, .agg cs.toArray), (1, .agg ds.toArray)] := by simp [hx, hy]
  unfold Oper.wp execOp
  simp only [ho, hp, Sem.run_bind, run_sum2 w cs ds hc hd, Result.andThen_ok]
  exact h
theorem rs_two {cs ds : List Value} {x y : Sm} (h : SumC cs x) (h2 : SumC ds y) (W : World) : Rs (W.alloc (.cells (cs ++ ds).toArray 24)) (some ⟨W.heap.size, 0, none⟩) [x, y] := by
  have ho : Os (W.alloc (.cells (cs ++ ds).toArray 24)) W.heap.size (.slice (some ⟨W.heap.size, 0, none⟩) 2 2) [x, y] := by
    refine lit_R KS W 24 (okp := fun _ => False) (xs := [x, y]) (inner := cs ++ ds) ⟨by rw [List.length_append, h.lenC, h2.lenC]; rfl, fun j p hj => ?_⟩ (by simp)
    match j, hj with
    | 0, hj =>
      cases hj
      rw [show ((cs ++ ds).drop (0 * KS.sz)).take KS.sz = cs from by
        rw [Nat.zero_mul, List.drop_zero, List.take_left' (by rw [h.lenC]; rfl)]]
      exact h.m W _
    | 1, hj =>
      cases hj
      rw [show ((cs ++ ds).drop (1 * KS.sz)).take KS.sz = ds from by
        rw [Nat.one_mul, List.drop_left' (by rw [h.lenC]; rfl), List.take_of_length_le (by rw [h2.lenC]; exact Nat.le_refl _)]]
      exact h2.m W _
  obtain ⟨A, c, he, _, hr⟩ := Kd.R_reads ho
  injection he with he
  subst he
  exact hr
theorem path_two (x y : Sm) : pathT [x, y] 1 = [leafH x] := by
  have h1 : hlf 2 = 1 := by decide
  have e : ([x, y] : List Sm).length = 2 := rfl
  rw [pathT, dif_neg (by rw [e]; decide), e, h1, if_neg (by decide), show ([x, y] : List Sm).drop 1 = [y] from rfl, show ([x, y] : List Sm).take 1 = [x] from rfl, pathT, dif_pos (show ([y] : List Sm).length ≤ 1 from Nat.le_refl _), rootT_one]
  rfl
/-- A new block's cells. -/
theorem atC_blk {W : World} {g T : Nat} {cs : List Value} {fr : Nat × Nat} (h : W.heap[g]? = some (.cells cs.toArray T fr)) : AtC W ⟨g, 0, none⟩ cs := fun j v hj => by
  rw [add_plain]
  unfold World.cell?
  dsimp only
  rw [h]
  simpa using hj
set_option maxHeartbeats 4000000 in
set_option maxRecDepth 100000 in
theorem live26_c (w : World) : Calls Try.prog 32 #[] w (RetB w true) := by
  obtain ⟨a, ha⟩ : ∃ a : Sm, a = 1 :: List.replicate 31 0 := ⟨_, rfl⟩
  obtain ⟨b, hb⟩ : ∃ b : Sm, b = 2 :: List.replicate 31 0 := ⟨_, rfl⟩
  have hal : a.length = 32 := by rw [ha]; rfl
  have hbl : b.length = 32 := by rw [hb]; rfl
  have hau : U8' a := by rw [ha]; intro y hy; rcases List.mem_cons.1 hy with rfl | hy; · decide
                         have := List.eq_of_mem_replicate hy; omega
  have hbu : U8' b := by rw [hb]; intro y hy; rcases List.mem_cons.1 hy with rfl | hy; · decide
                         have := List.eq_of_mem_replicate hy; omega
  obtain ⟨X, hX⟩ := sumC a hal
  obtain ⟨Y, hY⟩ := sumC b hbl
  have HXE := Aside0.mk (show X.toArray = (nums .u8 (1 :: List.replicate 31 0)).toArray from by rw [← hX.eq, ha])
  have HYE := Aside0.mk (show Y.toArray = (nums .u8 (2 :: List.replicate 31 0)).toArray from by rw [← hY.eq, hb])
  have hlu : Lu [a, b] := fun x hx => by
    rcases List.mem_cons.1 hx with rfl | hx
    · exact ⟨hal, hau⟩
    · rw [List.mem_singleton.1 hx]; exact ⟨hbl, hbu⟩
  clear ha hb
  have HX := Aside0.mk hX
  have HY := Aside0.mk hY
  have HU := Aside0.mk (And.intro hal (And.intro hbl (And.intro hau (And.intro hbu hlu))))
  have HIX := Aside0.mk (show (Try.prog.info? 24).map (·.size) = some X.toArray.size from by simp [hX.lenC, info_32])
  have HIY := Aside0.mk (show (Try.prog.info? 24).map (·.size) = some Y.toArray.size from by simp [hY.lenC, info_32])
  have HOX := Aside0.mk (show X.toArray.all (·.oneCell') = true from by rw [← hX.eq]; exact nums_one _ _)
  have HOY := Aside0.mk (show Y.toArray.all (·.oneCell') = true from by rw [← hY.eq]; exact nums_one _ _)
  have HSX := Aside0.mk (show Z32.size = X.toArray.size from by simp [Z32, nums, hX.lenC])
  have HSY := Aside0.mk (show Z32.size = Y.toArray.size from by simp [Z32, nums, hY.lenC])
  have HG1 := Aside0.mk (show ((w.alloc (.cells Z32 24)).alloc (.cells Z32 24)).heap[w.heap.size]? = some (.cells Z32 24 (0, 0)) from blk_alloc (blk_new _ _) _)
  have HG2 := Aside0.mk (show (((w.alloc (.cells Z32 24)).alloc (.cells Z32 24)).setRow w.heap.size X.toArray).heap[w.heap.size + 1]? = some (.cells Z32 24 (0, 0)) from (setRow_other _ _ _ _ (by omega)).trans (second_new' _ _ _))
  have HL1 := Aside0.mk (show ((((w.alloc (.cells Z32 24)).alloc (.cells Z32 24)).setRow w.heap.size X.toArray).setRow (w.heap.size + 1) Y.toArray).heap[w.heap.size]? = some (.cells X.toArray 24 (0, 0)) from (setRow_other _ _ _ _ (by omega)).trans (setRow_heap _ _ Z32 X.toArray _ _ HG1.out))
  have HL2 := Aside0.mk (show ((((w.alloc (.cells Z32 24)).alloc (.cells Z32 24)).setRow w.heap.size X.toArray).setRow (w.heap.size + 1) Y.toArray).heap[w.heap.size + 1]? = some (.cells Y.toArray 24 (0, 0)) from setRow_heap _ _ Z32 Y.toArray _ _ HG2.out)
  have HBL := Aside0.mk (show Below w.heap.size w ((((w.alloc (.cells Z32 24)).alloc (.cells Z32 24)).setRow w.heap.size X.toArray).setRow (w.heap.size + 1) Y.toArray) from below_setRow (below_setRow (below_alloc (below_alloc (Below.refl _ _) _) _) (Nat.le_refl _) _) (Nat.le_succ _) _)
  clear hX hY hal hbl hau hbu hlu
  unfold RetB
  go_enter Try.func32, Try.ntmps32
  go_upto_region 2 with (first
    | ((with_reducible refine gate_store (t := 24) (p := 1) (v := .tmp 5) rfl ?_); refine wpList_store_row rfl 24 (.tmp 1) (.tmp 5) rfl w.heap.size X.toArray rfl (by rw [HXE.out]; rfl) 24 Z32 HG1.out HIX.out HSX.out HOX.out ?_)
    | ((with_reducible refine gate_store (t := 24) (p := 2) (v := .tmp 6) rfl ?_); refine wpList_store_row rfl 24 (.tmp 2) (.tmp 6) rfl (w.heap.size + 1) Y.toArray rfl (by rw [HYE.out]; rfl) 24 Z32 HG2.out HIY.out HSY.out HOY.out ?_))
  obtain ⟨WL, hWL⟩ : ∃ W, ((((w.alloc (.cells Z32 24)).alloc (.cells Z32 24)).setRow w.heap.size X.toArray).setRow (w.heap.size + 1) Y.toArray) = W := ⟨_, rfl⟩
  rw [hWL] at HL1 HL2 HBL
  rw [show ((((w.alloc (.cells #[.int .u8 0, .int .u8 0, .int .u8 0, .int .u8 0, .int .u8 0, .int .u8 0, .int .u8 0, .int .u8 0, .int .u8 0, .int .u8 0, .int .u8 0, .int .u8 0, .int .u8 0, .int .u8 0, .int .u8 0, .int .u8 0, .int .u8 0, .int .u8 0, .int .u8 0, .int .u8 0, .int .u8 0, .int .u8 0, .int .u8 0, .int .u8 0, .int .u8 0, .int .u8 0, .int .u8 0, .int .u8 0, .int .u8 0, .int .u8 0, .int .u8 0, .int .u8 0] 24)).alloc (.cells #[.int .u8 0, .int .u8 0, .int .u8 0, .int .u8 0, .int .u8 0, .int .u8 0, .int .u8 0, .int .u8 0, .int .u8 0, .int .u8 0, .int .u8 0, .int .u8 0, .int .u8 0, .int .u8 0, .int .u8 0, .int .u8 0, .int .u8 0, .int .u8 0, .int .u8 0, .int .u8 0, .int .u8 0, .int .u8 0, .int .u8 0, .int .u8 0, .int .u8 0, .int .u8 0, .int .u8 0, .int .u8 0, .int .u8 0, .int .u8 0, .int .u8 0, .int .u8 0] 24)).setRow w.heap.size X.toArray).setRow (w.heap.size + 1) Y.toArray) = WL from hWL]
  clear hWL HG1 HG2
  go_wp2_with (first
    | ((with_reducible refine gate_dst (N := 8) rfl ?_); refine wpList_load_row rfl 24 (.tmp 1) rfl w.heap.size rfl 24 X.toArray (0, 0) _ (by exact HL1.out) Try.underlying24 rfl HIX.out ?_)
    | ((with_reducible refine gate_dst (N := 9) rfl ?_); refine wpList_load_row rfl 24 (.tmp 2) rfl (w.heap.size + 1) rfl 24 Y.toArray (0, 0) _ (by exact HL2.out) Try.underlying24 rfl HIY.out ?_)
    | ((with_reducible refine gate_dst (N := 10) rfl ?_); refine wpList_sum2 rfl (.tmp 8) (.tmp 9) rfl X Y rfl rfl HX.out.lenC HY.out.lenC ?_))
  have HR2 := Aside0.mk (rs_two HX.out HY.out WL)
  refine (path_c [a, b] 2 rfl (by decide) HU.out.2.2.2.2 1 (by decide) _ 2 (Nat.le_refl _) _ HR2.out).mono ?_
  rintro e w3 ⟨v, rfl, ho, hb⟩
  rw [path_two] at ho
  obtain ⟨gp, cap, rfl, hgp, hgs, _⟩ := Kd.R_form ho (by simp)
  obtain ⟨hat, hal⟩ := os_at ho 0 (by simp)
  obtain ⟨P, hP⟩ := sumC (leafH a) (leafH_len a)
  rw [show ([leafH a] : List Sm).getD 0 Z = leafH a from rfl, hP.eq, Nat.zero_mul] at hat
  have hba := below_alloc (Below.refl WL.heap.size WL) (.cells (X ++ Y).toArray 24)
  have HA1 := Aside0.mk (AtC.below (AtC.below (atC_blk HL1.out) hba) hb)
  have HA2 := Aside0.mk (AtC.below (AtC.below (atC_blk HL2.out) hba) hb)
  have HA3 := Aside0.mk hat
  have HB3 := Aside0.mk (below_step (below_step HBL.out hba) hb)
  obtain ⟨_, _, he, hcp, hrp⟩ := Kd.R_reads ho
  injection he with he1 he2 he3
  subst he1
  subst he3
  have HRP := Aside0.mk hrp
  have HCP := Aside0.mk hcp
  have HP := Aside0.mk hP
  clear ho hb hba hgp hgs hat hal he2 hcp hrp hP
  rw [show ([leafH a] : List Sm).length = 1 from rfl]
  have HIP := Aside0.mk (show (Try.prog.info? 24).map (·.size) = some P.length from by rw [HP.out.lenC]; exact info_32)
  have HJX := Aside0.mk (show (Try.prog.info? 24).map (·.size) = some X.length from by rw [HX.out.lenC]; exact info_32)
  have HJY := Aside0.mk (show (Try.prog.info? 24).map (·.size) = some Y.length from by rw [HY.out.lenC]; exact info_32)
  have HT := Aside0.mk (rleafx_c a HU.out.1)
  have HS := Aside0.mk (rof_o (leafX a) (leafX_u8 HU.out.2.2.1) (by rw [leafX_len HU.out.1]; decide))
  have HRT := Aside0.mk (fun W => root_c 2 [a, b] rfl (by decide) _ 2 (W.alloc (.cells (X ++ Y).toArray 24)) (rs_two HX.out HY.out W) (Nat.le_refl _) HU.out.2.2.2.2)
  have HCK := Aside0.mk (fun W hW => check_c (rootT [a, b]) b (rootT_len _) HU.out.2.1 HU.out.2.2.2.1 1 2 [leafH a] (by simp) (fun x hx => by rw [List.mem_singleton.1 hx]; exact ⟨leafH_len _, leafH_u8 _⟩) (some ⟨gp, 0, none⟩) cap HCP.out W (Kd.C_below HRP.out hW))
  have hck : checkT (rootT [a, b]) b 1 2 [leafH a] = true := by
    have h := check_path [a, b] 1 (by simp) (by simp)
    rwa [path_two] at h
  obtain ⟨G, hG⟩ := sumF (rootT [a, b]) (rootT_len _)
  unfold MakesU at HT
  unfold Ret at HS HRT
  unfold RetB at HCK
  rw [hck] at HCK
  rw [HX.out.v] at HT
  rw [← leafH_eq, HP.out.v] at HS
  rw [hG.v] at HRT HCK
  rw [HY.out.v] at HCK
  rw [show ([leafH a] : List Sm).length = 1 from rfl] at HCK
  have heq := run_eq_sum (leafH a) (leafH a) (leafH_len _) (leafH_len _)
  rw [HP.out.v, decide_eq_true rfl] at heq
  have hguard := guard_32
  have hu24 := Try.underlying24
  have HW3 := Aside0.mk (Below.refl w3.heap.size w3)
  clear hck hG HRP
  go_wp2_with (fail)
  refine wp_region_held_drew (S := fun w' => AtC w' ⟨w.heap.size, 0, none⟩ X ∧ AtC w' ⟨w.heap.size + 1, 0, none⟩ Y ∧ AtC w' ⟨gp, 0, none⟩ P) (by kernel_rfl) (And.intro HA1.out (And.intro HA2.out HA3.out)) (fun hHeld => ?_)
  (refine wpAnyH_take (i := 0) (v := ?_) rfl (by kernel_rfl) (by kernel_rfl) (by kernel_rfl) (fun _ _ _ h => h) (Or.inl ⟨by rfl, ?_⟩) (by assumption) ?_; (case' refine_2 => (intro w hSw; go_simp; try with_reducible rfl)); (try simp only [Act.put, List.getElem_toArray, List.getElem_cons_zero, List.getElem_cons_succ, List.setIfInBounds_toArray, List.set_cons_zero, List.set_cons_succ]))
  (refine wpAnyH_take (i := 1) (v := ?_) rfl (by kernel_rfl) (by kernel_rfl) (by kernel_rfl) (fun _ _ _ h => h) (Or.inl ⟨by rfl, ?_⟩) (by assumption) ?_; (case' refine_2 => (intro w hSw; go_simp; try with_reducible rfl)); (try simp only [Act.put, List.getElem_toArray, List.getElem_cons_zero, List.getElem_cons_succ, List.setIfInBounds_toArray, List.set_cons_zero, List.set_cons_succ]))
  (refine wpAnyH_take (i := 2) (v := ?_) rfl (by kernel_rfl) (by kernel_rfl) (by kernel_rfl) (fun _ _ _ h => h) (Or.inl ⟨by rfl, ?_⟩) (by assumption) ?_; (case' refine_2 => (intro w hSw; go_simp; try with_reducible rfl)); (try simp only [Act.put, List.getElem_toArray, List.getElem_cons_zero, List.getElem_cons_succ, List.setIfInBounds_toArray, List.set_cons_zero, List.set_cons_succ]))
  (refine wpAnyH_take (i := 3) (v := ?_) rfl (by kernel_rfl) (by kernel_rfl) (by kernel_rfl) (fun _ _ _ h => h) (Or.inl ⟨by rfl, ?_⟩) (by assumption) ?_; (case' refine_2 => (intro w hSw; go_simp; try with_reducible rfl)); (try simp only [Act.put, List.getElem_toArray, List.getElem_cons_zero, List.getElem_cons_succ, List.setIfInBounds_toArray, List.set_cons_zero, List.set_cons_succ]))
  (refine wpAnyH_take (i := 4) (v := ?_) rfl (by kernel_rfl) (by kernel_rfl) (by kernel_rfl) (fun _ _ _ h => h) (Or.inl ⟨by rfl, ?_⟩) (by assumption) ?_; (case' refine_2 => (intro w hSw; go_simp; try with_reducible rfl)); (try simp only [Act.put, List.getElem_toArray, List.getElem_cons_zero, List.getElem_cons_succ, List.setIfInBounds_toArray, List.set_cons_zero, List.set_cons_succ]))
  (refine wpAnyH_take (i := 5) (v := ?_) rfl (by kernel_rfl) (by kernel_rfl) (by kernel_rfl) (fun _ _ _ h => h) (Or.inl ⟨by rfl, ?_⟩) (by assumption) ?_; (case' refine_2 => (intro w hSw; go_simp; try with_reducible rfl)); (try simp only [Act.put, List.getElem_toArray, List.getElem_cons_zero, List.getElem_cons_succ, List.setIfInBounds_toArray, List.set_cons_zero, List.set_cons_succ]))
  (refine wpAnyH_take (i := 6) (v := ?_) rfl (by kernel_rfl) (by kernel_rfl) (by kernel_rfl) (fun _ _ _ h => h) (Or.inl ⟨by rfl, ?_⟩) (by assumption) ?_; (case' refine_2 => (intro w hSw; go_simp; try with_reducible rfl)); (try simp only [Act.put, List.getElem_toArray, List.getElem_cons_zero, List.getElem_cons_succ, List.setIfInBounds_toArray, List.set_cons_zero, List.set_cons_succ]))
  (refine wpAnyH_take (i := 7) (v := ?_) rfl (by kernel_rfl) (by kernel_rfl) (by kernel_rfl) (fun _ _ _ h => h) (Or.inl ⟨by rfl, ?_⟩) (by assumption) ?_; (case' refine_2 => (intro w hSw; go_simp; try with_reducible rfl)); (try simp only [Act.put, List.getElem_toArray, List.getElem_cons_zero, List.getElem_cons_succ, List.setIfInBounds_toArray, List.set_cons_zero, List.set_cons_succ]))
  (refine wpAnyH_take (i := 8) (v := ?_) rfl (by kernel_rfl) (by kernel_rfl) (by kernel_rfl) (fun _ _ _ h => h) (Or.inl ⟨by rfl, ?_⟩) (by assumption) ?_; (case' refine_2 => (intro w hSw; go_simp; try with_reducible rfl)); (try simp only [Act.put, List.getElem_toArray, List.getElem_cons_zero, List.getElem_cons_succ, List.setIfInBounds_toArray, List.set_cons_zero, List.set_cons_succ]))
  (refine wpAnyH_take (i := 9) rfl (by kernel_rfl) (by kernel_rfl) (by kernel_rfl) (fun _ _ _ h => h) (yieldsIf_load_at (by rfl) _ _ rfl ⟨gp, 0, none⟩ rfl P _ (fun _ h => h.2.2) (by assumption) rfl HIP.out) (by assumption) ?_; (try simp only [Act.put, List.getElem_toArray, List.getElem_cons_zero, List.getElem_cons_succ, List.setIfInBounds_toArray, List.set_cons_zero, List.set_cons_succ]))
  (refine wpAnyH_take (i := 10) rfl (by kernel_rfl) (by kernel_rfl) (by kernel_rfl) (fun _ _ _ h => h) (yieldsIf_load_at (by rfl) _ _ rfl ⟨w.heap.size, 0, none⟩ rfl X _ (fun _ h => h.1) (by assumption) rfl HJX.out) (by assumption) ?_; (try simp only [Act.put, List.getElem_toArray, List.getElem_cons_zero, List.getElem_cons_succ, List.setIfInBounds_toArray, List.set_cons_zero, List.set_cons_succ]))
  (refine wpAnyH_ready (rs := [11]) (by kernel_rfl) (by simp) (AllReadyH.cons rfl (fun K hK => ?_) AllReadyH.nil); go_simp)
  refine (HT.out _).mono ?_
  rintro e w4 ⟨v, rfl, ho, hb0⟩
  have HS4 := Aside0.mk (HS.out _ v w4 ho)
  have hb := below_drew_of hb0
  have HW4 := Aside0.mk (below_step HW3.out hb)
  have n1_ := Aside0.mk (HA1.out.below hb)
  have n2_ := Aside0.mk (HA2.out.below hb)
  have n3_ := Aside0.mk (HA3.out.below hb)
  have n4_ := Aside0.mk (below_step HB3.out hb)
  clear HA1 HA2 HA3 HB3
  have HA1 := n1_
  have HA2 := n2_
  have HA3 := n3_
  have HB3 := n4_
  clear n1_ n2_ n3_ n4_
  clear ho hb hb0
  (refine Shut.out hK _ _ (And.intro HA1.out (And.intro HA2.out HA3.out)) (fun hHeld => ?_); clear hK K; (try simp only [Act.put, List.getElem_toArray, List.getElem_cons_zero, List.getElem_cons_succ, List.setIfInBounds_toArray, List.set_cons_zero, List.set_cons_succ]))
  (refine wpAnyH_ready (rs := [12]) (by kernel_rfl) (by simp) (AllReadyH.cons rfl (fun K hK => ?_) AllReadyH.nil); go_simp)
  refine HS4.out.mono ?_
  rintro e w5 ⟨rfl, hb⟩
  have HW5 := Aside0.mk (below_step HW4.out hb)
  have n1_ := Aside0.mk (HA1.out.below hb)
  have n2_ := Aside0.mk (HA2.out.below hb)
  have n3_ := Aside0.mk (HA3.out.below hb)
  have n4_ := Aside0.mk (below_step HB3.out hb)
  clear HA1 HA2 HA3 HB3
  have HA1 := n1_
  have HA2 := n2_
  have HA3 := n3_
  have HB3 := n4_
  clear n1_ n2_ n3_ n4_
  clear hb
  (refine Shut.out hK _ _ (And.intro HA1.out (And.intro HA2.out HA3.out)) (fun hHeld => ?_); clear hK K; (try simp only [Act.put, List.getElem_toArray, List.getElem_cons_zero, List.getElem_cons_succ, List.setIfInBounds_toArray, List.set_cons_zero, List.set_cons_succ]))
  (refine wpAnyH_take (i := 13) (v := ?_) rfl (by kernel_rfl) (by kernel_rfl) (by kernel_rfl) (fun _ _ _ h => h) (Or.inl ⟨by rfl, ?_⟩) (by assumption) ?_; (case' refine_2 => (intro w hSw; go_simp; try with_reducible rfl)); (try simp only [Act.put, List.getElem_toArray, List.getElem_cons_zero, List.getElem_cons_succ, List.setIfInBounds_toArray, List.set_cons_zero, List.set_cons_succ]))
  (refine wpAnyH_take (i := 14) (v := ?_) rfl (by kernel_rfl) (by kernel_rfl) (by kernel_rfl) (fun _ _ _ h => h) (Or.inl ⟨by rfl, ?_⟩) (by assumption) ?_; (case' refine_2 => (intro w hSw; go_simp; try with_reducible rfl)); (try simp only [Act.put, List.getElem_toArray, List.getElem_cons_zero, List.getElem_cons_succ, List.setIfInBounds_toArray, List.set_cons_zero, List.set_cons_succ]))
  (refine wpAnyH_take (i := 15) (v := ?_) rfl (by kernel_rfl) (by kernel_rfl) (by kernel_rfl) (fun _ _ _ h => h) (Or.inl ⟨by rfl, ?_⟩) (by assumption) ?_; (case' refine_2 => (intro w hSw; go_simp; try with_reducible rfl)); (try simp only [Act.put, List.getElem_toArray, List.getElem_cons_zero, List.getElem_cons_succ, List.setIfInBounds_toArray, List.set_cons_zero, List.set_cons_succ]))
  (refine wpAnyH_take (i := 16) rfl (by kernel_rfl) (by kernel_rfl) (by kernel_rfl) (fun _ _ _ h => h) (yieldsIf_load_at (by rfl) _ _ rfl ⟨w.heap.size, 0, none⟩ rfl X _ (fun _ h => h.1) (by assumption) rfl HJX.out) (by assumption) ?_; (try simp only [Act.put, List.getElem_toArray, List.getElem_cons_zero, List.getElem_cons_succ, List.setIfInBounds_toArray, List.set_cons_zero, List.set_cons_succ]))
  (refine wpAnyH_take (i := 17) rfl (by kernel_rfl) (by kernel_rfl) (by kernel_rfl) (fun _ _ _ h => h) (yieldsIf_load_at (by rfl) _ _ rfl ⟨w.heap.size + 1, 0, none⟩ rfl Y _ (fun _ h => h.2.1) (by assumption) rfl HJY.out) (by assumption) ?_; (try simp only [Act.put, List.getElem_toArray, List.getElem_cons_zero, List.getElem_cons_succ, List.setIfInBounds_toArray, List.set_cons_zero, List.set_cons_succ]))
  (refine wpAnyH_take (i := 20) rfl (by kernel_rfl) (by kernel_rfl) (by kernel_rfl) (fun _ _ _ h => h) (yieldsIf_load_at (by rfl) _ _ rfl ⟨w.heap.size + 1, 0, none⟩ rfl Y _ (fun _ h => h.2.1) (by assumption) rfl HJY.out) (by assumption) ?_; (try simp only [Act.put, List.getElem_toArray, List.getElem_cons_zero, List.getElem_cons_succ, List.setIfInBounds_toArray, List.set_cons_zero, List.set_cons_succ]))
  (refine wpAnyH_take (i := 21) (v := ?_) rfl (by kernel_rfl) (by kernel_rfl) (by kernel_rfl) (fun _ _ _ h => h) (Or.inl ⟨by rfl, ?_⟩) (by assumption) ?_; (case' refine_2 => (intro w hSw; go_simp; try with_reducible rfl)); (try simp only [Act.put, List.getElem_toArray, List.getElem_cons_zero, List.getElem_cons_succ, List.setIfInBounds_toArray, List.set_cons_zero, List.set_cons_succ]))
  refine wpAnyH_ready (rs := [18]) (by kernel_rfl) (by simp) (AllReadyH.cons rfl (fun K hK => ?_) AllReadyH.nil)
  rw [if_pos (by rfl)]
  refine wp_sum2 (.tmp 30) (.tmp 31) rfl X Y rfl rfl HX.out.lenC HY.out.lenC ?_
  have HR5 := Aside0.mk (HRT.out w5)
  have hb := below_alloc (Below.refl w5.heap.size w5) (.cells (X ++ Y).toArray 24)
  have HW6 := Aside0.mk (below_step HW5.out hb)
  have n1_ := Aside0.mk (HA1.out.below hb)
  have n2_ := Aside0.mk (HA2.out.below hb)
  have n3_ := Aside0.mk (HA3.out.below hb)
  have n4_ := Aside0.mk (below_step HB3.out hb)
  clear HA1 HA2 HA3 HB3
  have HA1 := n1_
  have HA2 := n2_
  have HA3 := n3_
  have HB3 := n4_
  clear n1_ n2_ n3_ n4_
  clear hb
  (refine Shut.out hK _ _ (And.intro HA1.out (And.intro HA2.out HA3.out)) (fun hHeld => ?_); clear hK K; (try simp only [Act.put, List.getElem_toArray, List.getElem_cons_zero, List.getElem_cons_succ, List.setIfInBounds_toArray, List.set_cons_zero, List.set_cons_succ]))
  (refine wpAnyH_ready (rs := [19]) (by kernel_rfl) (by simp) (AllReadyH.cons rfl (fun K hK => ?_) AllReadyH.nil); go_simp)
  refine HR5.out.mono ?_
  rintro e w7 ⟨rfl, hb⟩
  have HW7 := Aside0.mk (below_step HW6.out hb)
  have n1_ := Aside0.mk (HA1.out.below hb)
  have n2_ := Aside0.mk (HA2.out.below hb)
  have n3_ := Aside0.mk (HA3.out.below hb)
  have n4_ := Aside0.mk (below_step HB3.out hb)
  clear HA1 HA2 HA3 HB3
  have HA1 := n1_
  have HA2 := n2_
  have HA3 := n3_
  have HB3 := n4_
  clear n1_ n2_ n3_ n4_
  clear hb
  (refine Shut.out hK _ _ (And.intro HA1.out (And.intro HA2.out HA3.out)) (fun hHeld => ?_); clear hK K; (try simp only [Act.put, List.getElem_toArray, List.getElem_cons_zero, List.getElem_cons_succ, List.setIfInBounds_toArray, List.set_cons_zero, List.set_cons_succ]))
  (refine wpAnyH_ready (rs := [22]) (by kernel_rfl) (by simp) (AllReadyH.cons rfl (fun K hK => ?_) AllReadyH.nil); go_simp)
  refine (HCK.out _ HW7.out).mono ?_
  rintro e w8 ⟨rfl, hb⟩
  have n1_ := Aside0.mk (HA1.out.below hb)
  have n2_ := Aside0.mk (HA2.out.below hb)
  have n3_ := Aside0.mk (HA3.out.below hb)
  have n4_ := Aside0.mk (below_step HB3.out hb)
  clear HA1 HA2 HA3 HB3
  have HA1 := n1_
  have HA2 := n2_
  have HA3 := n3_
  have HB3 := n4_
  clear n1_ n2_ n3_ n4_
  clear hb
  (refine Shut.out hK _ _ (And.intro HA1.out (And.intro HA2.out HA3.out)) (fun hHeld => ?_); clear hK K; (try simp only [Act.put, List.getElem_toArray, List.getElem_cons_zero, List.getElem_cons_succ, List.setIfInBounds_toArray, List.set_cons_zero, List.set_cons_succ]))
  (refine wpAnyH_take (i := 23) (v := ?_) rfl (by kernel_rfl) (by kernel_rfl) (by kernel_rfl) (fun _ _ _ h => h) (Or.inl ⟨by rfl, ?_⟩) (by assumption) ?_; (case' refine_2 => (intro w hSw; go_simp; try with_reducible rfl)); (try simp only [Act.put, List.getElem_toArray, List.getElem_cons_zero, List.getElem_cons_succ, List.setIfInBounds_toArray, List.set_cons_zero, List.set_cons_succ]))
  (refine wpAnyH_take (i := 24) (v := ?_) rfl (by kernel_rfl) (by kernel_rfl) (by kernel_rfl) (fun _ _ _ h => h) (Or.inl ⟨by rfl, ?_⟩) (by assumption) ?_; (case' refine_2 => (intro w hSw; go_simp; try with_reducible rfl)); (try simp only [Act.put, List.getElem_toArray, List.getElem_cons_zero, List.getElem_cons_succ, List.setIfInBounds_toArray, List.set_cons_zero, List.set_cons_succ]))
  refine wpAnyH_done (by kernel_rfl) ?_ _
  go_wp2_with (fail)
  go_ret
  exact ⟨rfl, HB3.out⟩
end Go.Proofs.Ytbebkogkeepfoaa.Tree
/- The law TreeRoots walked. -/
namespace Go.Proofs.Ytbebkogkeepfoaa.Tree
set_option linter.unusedVariables false
set_option linter.unusedSimpArgs false
open Go.RowKit Go.Proofs.Ytbebkogkeepfoaa.Base Go.Proofs.Ytbebkogkeepfoaa.TlvPlain Go.Proofs.Ytbebkogkeepfoaa.ShaPlain Go.Proofs.Ytbebkogkeepfoaa.Sha Go.Proofs.Ytbebkogkeepfoaa.Com Go.Proofs.Ytbebkogkeepfoaa.Aid Go.Proofs.YtbebkogkeepfoaaW.PrintWords Go.Proofs.YtbebkogkeepfoaaW.PrintLast Go.Proofs.YtbebkogkeepfoaaW.PrintMore
/-- A path, or none. -/
def pathO (l : List Sm) (i : Int) : List Sm := if 0 ≤ i ∧ i < l.length then pathT l i.toNat else []
theorem pathO_len (l : List Sm) (i : Int) : (pathO l i).length ≤ l.length := by
  unfold pathO
  split
  · exact pathT_len _ _
  · exact Nat.zero_le _
theorem path_any (l : List Sm) (n : Nat) (hl : l.length = n) (hm : n ≤ 1000000) (hu : Lu l) (i : Int) (A : Option Addr) (c : Nat) (hc : n ≤ c) (w : World) (hr : Rs w A l) :
    Calls Try.prog 39 #[.slice A n c, .int .i64 i] w (RetO w (pathO l i) (decide (0 ≤ i ∧ i < n))) := by
  unfold pathO
  by_cases h : 0 ≤ i ∧ i < n
  · rw [hl, if_pos h, decide_eq_true h]
    obtain ⟨k, rfl⟩ : ∃ k : Nat, (k : Int) = i := ⟨i.toNat, by omega⟩
    rw [Int.toNat_natCast]
    exact path_c l n hl hm hu k (by omega) A c hc w hr
  · rw [hl, if_neg h, decide_eq_false h]
    refine (path_bad A n c i w (by omega)).mono fun e w' hh => ?_
    obtain ⟨rfl, rfl⟩ := hh
    exact ⟨_, rfl, Kd.R_nil _ _ _ _ _, Below.refl _ _⟩
theorem rpath_any (l : List Sm) (n : Nat) (hl : l.length = n) (hm : n ≤ 1000000) (hu : Lu l) (i : Int) (A : Option Addr) (c : Nat) (hc : n ≤ c) (w : World) (hr : Rs w A l) :
    Calls Try.prog 40 #[.slice A n c, .int .i64 i] w (RetO w (pathO l i) (decide (0 ≤ i ∧ i < n))) := by
  unfold pathO
  by_cases h : 0 ≤ i ∧ i < n
  · rw [hl, if_pos h, decide_eq_true h]
    obtain ⟨k, rfl⟩ : ∃ k : Nat, (k : Int) = i := ⟨i.toNat, by omega⟩
    rw [Int.toNat_natCast]
    exact rpath_c n l hl hm k (by omega) A c w hr hc hu
  · rw [hl, if_neg h, decide_eq_false h]
    refine (rpath_bad A n c i w (by omega)).mono fun e w' hh => ?_
    obtain ⟨rfl, rfl⟩ := hh
    exact ⟨_, rfl, Kd.R_nil _ _ _ _ _, Below.refl _ _⟩
theorem front_right (l : List Sm) (h : l.length ≤ 1048576) : rightB (frontT l).length (l.length : Int) = true := by
  unfold rightB
  rw [Int.toNat_natCast, frontT_len]
  exact decide_eq_true ⟨by omega, by omega, rfl⟩
/-- Rows beside one that grows. -/
theorem os_other {W w1 : World} {b g : Nat} {v : Value} {l : List Sm} (h : Os W b v l) (hg : W.grownBy w1 (some g)) (hlt : g < b) : Os w1 b v l :=
  Kd.R_mono (Kd.R_grown (Kd.R_mono (Kd.R_bound h) (fun _ hk => (show b ≤ _ from hk.2.1))) hg (fun k hk he => by injection he with he; omega)) (fun _ _ => trivial)
theorem rs_of_os {W : World} {b g n c : Nat} {l : List Sm} (h : Os W b (.slice (some ⟨g, 0, none⟩) n c) l) : Kd.C KS W (some ⟨g, 0, none⟩) n l := by
  obtain ⟨A', c', he, _, hr⟩ := Kd.R_reads h
  injection he with h1 h2 h3
  subst h1 h2
  exact hr
/-- Sums that are read beside a row that grows. -/
theorem rs_other {W w1 : World} {g g' n : Nat} {l : List Sm} (h : Kd.C KS W (some ⟨g', 0, none⟩) n l) (hg : W.grownBy w1 (some g)) (hne : g' ≠ g) (hlt : g' < W.heap.size) : Kd.C KS w1 (some ⟨g', 0, none⟩) n l := by
  obtain ⟨h1, h2, h3⟩ := h
  refine ⟨h1, h2, fun h0 => ?_⟩
  obtain ⟨ad, he, hc⟩ := h3 h0
  refine ⟨ad, he, fun j p hj => ?_⟩
  obtain ⟨cs, hl, hk, hat⟩ := hc j p hj
  exact ⟨cs, hl, hk, fun i u hu => by
    have := hat i u hu
    injection he with he
    subst he
    rw [add_plain] at this ⊢
    unfold World.cell? at this ⊢
    dsimp only at this ⊢
    rw [hg.block g' hlt (fun e => hne (Option.some.inj e))]
    exact this⟩
/-- An empty row that is written out. -/
theorem wp_sum0 {o : Oper} {a : Act} {w : World} {K : Act → World → Prop} {Q : Exit → Act → World → Prop} (ho : o.op = .buildSlice 52 0 #[])
    (h : K (a.put o.dst (.slice (some ⟨w.heap.size, 0, none⟩) 0 0)) (w.alloc (.cells #[] 24))) : Oper.wp Try.prog o a w K Q := by
  have hr : (Instr.buildSlice 52 0 #[]).run Try.prog w = .ok (.slice (some ⟨w.heap.size, 0, none⟩) 0 0) (w.alloc (.cells #[] 24)) := by
    obtain ⟨ie, hie, hs⟩ := info_sum
    simp [Instr.buildSlice, run_underlying Try.underlying52, sizeOf, typeInfo, hie, Instr.fill, newRow]
    rw [show Array.range 0 = #[] from Array.eq_empty_of_size_eq_zero (by simp), Array.map_empty]
  unfold Oper.wp execOp
  simp only [ho, List.map_toArray, List.map_nil, Sem.run_bind, hr, Result.andThen_ok]
  exact h
set_option maxHeartbeats 4000000 in
set_option maxRecDepth 100000 in
theorem roots_long (A : Option Addr) (n c : Nat) (hn : 40 < n) (i : Int) (leaf : Sm) (hl : leaf.length = 32) (w : World) :
    Calls Try.prog 11 #[.slice A n c, .int .i64 i, sumV leaf] w (RetB w true) := by
  obtain ⟨L, hL⟩ := sumF leaf hl
  rw [hL.v]
  have HB := Aside0.mk (below_alloc (Below.refl w.heap.size w) (.cells L 24))
  have d1 : decide ((40 : Int) < (n : Int)) = true := decide_eq_true (by omega)
  have d2 : decide (40 < n) = true := decide_eq_true hn
  unfold RetB
  clear hn hL hl
  go_enter Try.func11, Try.ntmps11
  go_wp2_with (go_at_call 32; refine (live26_c _).mono ?_; rintro e w1 ⟨rfl, hb⟩; have HB1 := Aside0.mk (below_step HB.out hb); clear hb)
  go_ret
  exact ⟨rfl, HB1.out⟩
set_option maxHeartbeats 16000000 in
set_option maxRecDepth 100000 in
theorem roots_walk (l : List Sm) (n : Nat) (hl : l.length = n) (hm : n ≤ 40) (hu : Lu l) (i : Int) (leaf : Sm) (hll : leaf.length = 32) (hlu : U8' leaf) (A : Option Addr) (c : Nat) (hc : n ≤ c) (w : World) (hr : Rs w A l) :
    Calls Try.prog 11 #[.slice A n c, .int .i64 i, sumV leaf] w (RetB w true) := by
  have hrl := front_right l (by omega)
  rw [hl] at hrl
  obtain ⟨F, hF⟩ : ∃ F, frontT l = F := ⟨_, rfl⟩
  have hfl : F.length ≤ n := by rw [← hF, ← hl]; exact frontT_le l
  have hfu : Lu F := by rw [← hF]; exact frontT_lu l
  have hfr : rightB F.length (n : Int) = true := by rw [← hF]; exact hrl
  obtain ⟨LF, hL⟩ := sumC leaf hll
  obtain ⟨bi, hbi⟩ : ∃ b, decide (0 ≤ i ∧ i < (n : Int)) = b := ⟨_, rfl⟩
  obtain ⟨P, hP⟩ : ∃ P, pathO l i = P := ⟨_, rfl⟩
  have hpl : P.length ≤ n := by rw [← hP, ← hl]; exact pathO_len l i
  obtain ⟨D, hD⟩ := sumC (rootT l) (rootT_len _)
  have HP1 := Aside0.mk (fun W hW => path_any l n hl (by omega) hu i A c hc W (Kd.C_below hr hW))
  have HP2 := Aside0.mk (fun W hW => rpath_any l n hl (by omega) hu i A c hc W (Kd.C_below hr hW))
  have HP3 := Aside0.mk (fun W hW => rfront_c n l hl (by omega) A c W (Kd.C_below hr hW) hc hu)
  have HP4 := Aside0.mk (fun A' c' hc' W hW => grow_c F F.length rfl hfu (by omega) A' c' hc' n (by omega) hfr leaf hll hlu W hW)
  have HP5 := Aside0.mk (fun A' c' hc' W hW => fold_c F F.length rfl hfu (by omega) A' c' hc' (n : Int) W hW)
  have HP6 := Aside0.mk (fun W hW => root_c n l hl (by omega) A c W (Kd.C_below hr hW) hc hu)
  have HP7 := Aside0.mk (fun W hW => rroot_c n l hl (by omega) A c W (Kd.C_below hr hW) hc hu)
  have HP8 := Aside0.mk (fun W hW => front_c l n hl (by omega) hu A c hc W (Kd.C_below hr hW))
  unfold RetO at HP1 HP2 HP4
  unfold RetV at HP3 HP8
  unfold Ret2 at HP5
  unfold Ret at HP6 HP7
  rw [hfr, if_pos rfl, ← hF, fold_front, hF, hD.v] at HP5
  rw [hD.v] at HP6 HP7
  rw [hP, hbi] at HP1 HP2
  rw [hF] at HP3 HP8
  have hgf : growT F n (leafH leaf) = frontT (l ++ [leaf]) := by rw [← hF, ← hl]; exact grow_front l leaf
  rw [hgf] at HP4
  obtain ⟨G, hG⟩ : ∃ G, frontT (l ++ [leaf]) = G := ⟨_, rfl⟩
  rw [hG] at HP4
  have hl1 : (l ++ [leaf]).length = n + 1 := by rw [List.length_append, hl]; rfl
  have hgl : G.length ≤ n + 1 := by rw [← hG, ← hl1]; exact frontT_le _
  have hu1 : Lu (l ++ [leaf]) := fun x hx => (List.mem_append.1 hx).elim (hu x) (fun hx => by rw [List.mem_singleton.1 hx]; exact ⟨hll, hlu⟩)
  have HP9 := Aside0.mk (fun A' c' hc' W hW => rfront_c (n + 1) (l ++ [leaf]) hl1 (by omega) A' c' W hW hc' hu1)
  unfold RetV at HP9
  rw [hG] at HP9
  have HLN := Aside0.mk (And.intro hl (And.intro hm (And.intro hpl (And.intro hfl (And.intro hgl hl1)))))
  rw [hL.v]
  have HL := Aside0.mk hL
  have HD := Aside0.mk hD
  have HRL := Aside0.mk hr
  have HIL := Aside0.mk (show (Try.prog.info? 24).map (·.size) = some LF.length from by rw [hL.lenC]; exact info_32)
  have HID := Aside0.mk (show (Try.prog.info? 24).map (·.size) = some D.length from by rw [hD.lenC]; exact info_32)
  have HJD := Aside0.mk (show (Try.prog.info? 24).map (·.size) = some D.toArray.size from by simp [hD.lenC, info_32])
  have HOD := Aside0.mk (show D.toArray.all (·.oneCell') = true from by rw [← hD.eq]; exact nums_one _ _)
  have HSD := Aside0.mk (show Z32.size = D.toArray.size from by simp [Z32, nums, hD.lenC])
  have HA5 := Aside0.mk (show AtC (w.alloc (.cells LF.toArray 24)) ⟨w.heap.size, 0, none⟩ LF from atC_blk (blk_new w (.cells LF.toArray 24)))
  have HB := Aside0.mk (below_alloc (Below.refl w.heap.size w) (.cells LF.toArray 24))
  have d1 : decide ((40 : Int) < (n : Int)) = false := decide_eq_false (by omega)
  have d2 : decide (40 < n) = false := decide_eq_false (by omega)
  have q1 : (n : Int) ≤ 40 := by omega
  have heq := run_eq_sum (rootT l) (rootT l) (rootT_len _) (rootT_len _)
  rw [hD.v, decide_eq_true rfl] at heq
  have hguard := guard_32
  have hu24 := Try.underlying24
  have HEQ := Aside0.mk heq
  have hbb : (bi == bi) = true := by simp
  unfold RetB
  clear hl hm hu hll hlu hc hr hrl hF hfl hfu hfr hL hbi hP hpl hD hgf hG hl1 hgl hu1 heq
  go_enter Try.func11, Try.ntmps11
  go_wp2_with (fail)
  refine (HP1.out _ HB.out).mono ?_
  rintro e wp ⟨v, rfl, ho, hb⟩
  have n_ := Aside0.mk (below_step HB.out hb)
  clear HB
  have HB := n_
  clear n_
  have n_ := Aside0.mk (HA5.out.below hb)
  clear HA5
  have HA5 := n_
  clear n_
  obtain ⟨Ap, cp, rfl, hcp, hrp⟩ := Kd.R_reads ho
  have HRp := Aside0.mk hrp
  have HCp := Aside0.mk hcp
  clear ho hb hcp hrp
  go_wp2_with (fail)
  refine (HP2.out _ HB.out).mono ?_
  rintro e wq ⟨v, rfl, ho, hb⟩
  have n_ := Aside0.mk (below_step HB.out hb)
  clear HB
  have HB := n_
  clear n_
  have n_ := Aside0.mk (HA5.out.below hb)
  clear HA5
  have HA5 := n_
  clear n_
  have n_ := Aside0.mk (Kd.C_below HRp.out hb)
  clear HRp
  have HRp := n_
  clear n_
  obtain ⟨Aq, cq, rfl, hcq, hrq⟩ := Kd.R_reads ho
  have HRq := Aside0.mk hrq
  have HCq := Aside0.mk hcq
  clear ho hb hcq hrq
  go_wp2_with (fail)
  refine (HP3.out _ HB.out).mono ?_
  rintro e wf ⟨v, rfl, ho, hb⟩
  have n_ := Aside0.mk (below_step HB.out hb)
  clear HB
  have HB := n_
  clear n_
  have n_ := Aside0.mk (HA5.out.below hb)
  clear HA5
  have HA5 := n_
  clear n_
  have n_ := Aside0.mk (Kd.C_below HRp.out hb)
  clear HRp
  have HRp := n_
  clear n_
  have n_ := Aside0.mk (Kd.C_below HRq.out hb)
  clear HRq
  have HRq := n_
  clear n_
  obtain ⟨Af, cf, rfl, hcf, hrf⟩ := Kd.R_reads ho
  have HRf := Aside0.mk hrf
  have HCf := Aside0.mk hcf
  clear ho hb hcf hrf
  go_wp2_with ((with_reducible refine gate_dst (N := 38) rfl ?_); refine wpList_load_at rfl 24 (.tmp 5) rfl ⟨w.heap.size, 0, none⟩ rfl LF _ HA5.out Try.underlying24 rfl HIL.out ?_)
  rw [show (Value.agg LF.toArray) = sumV leaf from HL.out.v.symm]
  refine (HP4.out _ _ HCf.out _ HRf.out).mono ?_
  rintro e wg ⟨v, rfl, ho, hb⟩
  have n_ := Aside0.mk (below_step HB.out hb)
  clear HB
  have HB := n_
  clear n_
  have n_ := Aside0.mk (HA5.out.below hb)
  clear HA5
  have HA5 := n_
  clear n_
  have n_ := Aside0.mk (Kd.C_below HRp.out hb)
  clear HRp
  have HRp := n_
  clear n_
  have n_ := Aside0.mk (Kd.C_below HRq.out hb)
  clear HRq
  have HRq := n_
  clear n_
  have n_ := Aside0.mk (Kd.C_below HRf.out hb)
  clear HRf
  have HRf := n_
  clear n_
  obtain ⟨Ag, cg, rfl, hcg, hrg⟩ := Kd.R_reads ho
  have HRg := Aside0.mk hrg
  have HCg := Aside0.mk hcg
  clear ho hb hcg hrg
  go_wp2_with (fail)
  refine (HP5.out _ _ HCf.out _ HRf.out).mono ?_
  rintro e wd ⟨rfl, hb⟩
  have n_ := Aside0.mk (below_step HB.out hb)
  clear HB
  have HB := n_
  clear n_
  have n_ := Aside0.mk (HA5.out.below hb)
  clear HA5
  have HA5 := n_
  clear n_
  have n_ := Aside0.mk (Kd.C_below HRp.out hb)
  clear HRp
  have HRp := n_
  clear n_
  have n_ := Aside0.mk (Kd.C_below HRq.out hb)
  clear HRq
  have HRq := n_
  clear n_
  have n_ := Aside0.mk (Kd.C_below HRf.out hb)
  clear HRf
  have HRf := n_
  clear n_
  have n_ := Aside0.mk (Kd.C_below HRg.out hb)
  clear HRg
  have HRg := n_
  clear n_
  clear hb
  have HG := Aside0.mk (show (wd.alloc (.cells Z32 24)).heap[wd.heap.size]? = some (.cells Z32 24 (0, 0)) from blk_new _ _)
  have HG2 := Aside0.mk (show ((wd.alloc (.cells Z32 24)).setRow wd.heap.size D.toArray).heap[wd.heap.size]? = some (.cells D.toArray 24 (0, 0)) from setRow_heap _ _ Z32 D.toArray _ _ HG.out)
  have hb : Below wd.heap.size wd ((wd.alloc (.cells Z32 24)).setRow wd.heap.size D.toArray) := below_setRow (below_alloc (Below.refl _ _) _) (Nat.le_refl _) _
  have n_ := Aside0.mk (below_step HB.out hb)
  clear HB
  have HB := n_
  clear n_
  have n_ := Aside0.mk (HA5.out.below hb)
  clear HA5
  have HA5 := n_
  clear n_
  have n_ := Aside0.mk (Kd.C_below HRp.out hb)
  clear HRp
  have HRp := n_
  clear n_
  have n_ := Aside0.mk (Kd.C_below HRq.out hb)
  clear HRq
  have HRq := n_
  clear n_
  have n_ := Aside0.mk (Kd.C_below HRf.out hb)
  clear HRf
  have HRf := n_
  clear n_
  have n_ := Aside0.mk (Kd.C_below HRg.out hb)
  clear HRg
  have HRg := n_
  clear n_
  clear hb
  go_upto_region 8 with ((with_reducible refine gate_store (t := 24) (p := 14) (v := .tmp 47) rfl ?_); refine wpList_store_row rfl 24 (.tmp 14) (.tmp 47) rfl wd.heap.size D.toArray rfl rfl 24 Z32 HG.out HJD.out HSD.out HOD.out ?_)
  have HA14 := Aside0.mk (atC_blk HG2.out)
  clear HG HG2
  obtain ⟨w7, hw7⟩ : ∃ W, (wd.alloc (.cells Z32 24)).setRow wd.heap.size D.toArray = W := ⟨_, rfl⟩
  rw [hw7] at HB HA5 HA14 HRp HRq HRf HRg
  rw [show (wd.alloc (.cells #[.int .u8 0, .int .u8 0, .int .u8 0, .int .u8 0, .int .u8 0, .int .u8 0, .int .u8 0, .int .u8 0, .int .u8 0, .int .u8 0, .int .u8 0, .int .u8 0, .int .u8 0, .int .u8 0, .int .u8 0, .int .u8 0, .int .u8 0, .int .u8 0, .int .u8 0, .int .u8 0, .int .u8 0, .int .u8 0, .int .u8 0, .int .u8 0, .int .u8 0, .int .u8 0, .int .u8 0, .int .u8 0, .int .u8 0, .int .u8 0, .int .u8 0, .int .u8 0] 24)).setRow wd.heap.size D.toArray = w7 from hw7]
  clear hw7
  have HW := Aside0.mk (Below.refl w7.heap.size w7)
  have heq := HEQ.out
  refine wp_region_held_drew (S := fun w' => AtC w' ⟨w.heap.size, 0, none⟩ LF ∧ AtC w' ⟨wd.heap.size, 0, none⟩ D) (by kernel_rfl) (And.intro HA5.out HA14.out) (fun hHeld => ?_)
  (refine wpAnyH_take (i := 0) (v := ?_) rfl (by kernel_rfl) (by kernel_rfl) (by kernel_rfl) (fun _ _ _ h => h) (Or.inl ⟨by rfl, ?_⟩) (by assumption) ?_; (case' refine_2 => (intro w hSw; go_simp; try with_reducible rfl)); (try simp only [Act.put, List.getElem_toArray, List.getElem_cons_zero, List.getElem_cons_succ, List.setIfInBounds_toArray, List.set_cons_zero, List.set_cons_succ]))
  (refine wpAnyH_take (i := 2) (v := ?_) rfl (by kernel_rfl) (by kernel_rfl) (by kernel_rfl) (fun _ _ _ h => h) (Or.inl ⟨by rfl, ?_⟩) (by assumption) ?_; (case' refine_2 => (intro w hSw; go_simp; try with_reducible rfl)); (try simp only [Act.put, List.getElem_toArray, List.getElem_cons_zero, List.getElem_cons_succ, List.setIfInBounds_toArray, List.set_cons_zero, List.set_cons_succ]))
  (refine wpAnyH_ready (rs := [1]) (by kernel_rfl) (by simp) (AllReadyH.cons rfl (fun K hK => ?_) AllReadyH.nil); go_simp)
  refine (HP6.out _ (below_drew1 HB.out)).mono ?_
  rintro e w8 ⟨rfl, hb0⟩
  have hb := below_drew_of hb0
  have n_ := Aside0.mk (below_step HW.out hb)
  clear HW hb hb0
  have HW := n_
  clear n_
  (refine Shut.out hK _ _ (And.intro (HA5.out.below HW.out) (HA14.out.below HW.out)) (fun hHeld => ?_); clear hK K; (try simp only [Act.put, List.getElem_toArray, List.getElem_cons_zero, List.getElem_cons_succ, List.setIfInBounds_toArray, List.set_cons_zero, List.set_cons_succ]))
  (refine wpAnyH_ready (rs := [3]) (by kernel_rfl) (by simp) (AllReadyH.cons rfl (fun K hK => ?_) AllReadyH.nil); go_simp)
  refine (HP7.out _ (below_step HB.out HW.out)).mono ?_
  rintro e w9 ⟨rfl, hb⟩
  have n_ := Aside0.mk (below_step HW.out hb)
  clear HW hb
  have HW := n_
  clear n_
  (refine Shut.out hK _ _ (And.intro (HA5.out.below HW.out) (HA14.out.below HW.out)) (fun hHeld => ?_); clear hK K; (try simp only [Act.put, List.getElem_toArray, List.getElem_cons_zero, List.getElem_cons_succ, List.setIfInBounds_toArray, List.set_cons_zero, List.set_cons_succ]))
  (refine wpAnyH_take (i := 4) (v := ?_) rfl (by kernel_rfl) (by kernel_rfl) (by kernel_rfl) (fun _ _ _ h => h) (Or.inl ⟨by rfl, ?_⟩) (by assumption) ?_; (case' refine_2 => (intro w hSw; go_simp; try with_reducible rfl)); (try simp only [Act.put, List.getElem_toArray, List.getElem_cons_zero, List.getElem_cons_succ, List.setIfInBounds_toArray, List.set_cons_zero, List.set_cons_succ]))
  (refine wpAnyH_take (i := 5) (v := ?_) rfl (by kernel_rfl) (by kernel_rfl) (by kernel_rfl) (fun _ _ _ h => h) (Or.inl ⟨by rfl, ?_⟩) (by assumption) ?_; (case' refine_2 => (intro w hSw; go_simp; try with_reducible rfl)); (try simp only [Act.put, List.getElem_toArray, List.getElem_cons_zero, List.getElem_cons_succ, List.setIfInBounds_toArray, List.set_cons_zero, List.set_cons_succ]))
  (refine wpAnyH_take (i := 6) (v := ?_) rfl (by kernel_rfl) (by kernel_rfl) (by kernel_rfl) (fun _ _ _ h => h) (Or.inl ⟨by rfl, ?_⟩) (by assumption) ?_; (case' refine_2 => (intro w hSw; go_simp; try with_reducible rfl)); (try simp only [Act.put, List.getElem_toArray, List.getElem_cons_zero, List.getElem_cons_succ, List.setIfInBounds_toArray, List.set_cons_zero, List.set_cons_succ]))
  (refine wpAnyH_take (i := 7) (v := ?_) rfl (by kernel_rfl) (by kernel_rfl) (by kernel_rfl) (fun _ _ _ h => h) (Or.inl ⟨by rfl, ?_⟩) (by assumption) ?_; (case' refine_2 => (intro w hSw; go_simp; try with_reducible rfl)); (try simp only [Act.put, List.getElem_toArray, List.getElem_cons_zero, List.getElem_cons_succ, List.setIfInBounds_toArray, List.set_cons_zero, List.set_cons_succ]))
  (refine wpAnyH_ready (rs := [8]) (by kernel_rfl) (by simp) (AllReadyH.cons rfl (fun K hK => ?_) AllReadyH.nil); go_simp)
  refine (same_c P P _ _ _ _ _ (Kd.C_below HRp.out HW.out) (Kd.C_below HRq.out HW.out) (by have := HLN.out; omega) (by have := HLN.out; omega)).mono ?_
  rintro e w10 ⟨rfl, hb⟩
  have n_ := Aside0.mk (below_step HW.out hb)
  clear HW hb
  have HW := n_
  clear n_
  (refine Shut.out hK _ _ (And.intro (HA5.out.below HW.out) (HA14.out.below HW.out)) (fun hHeld => ?_); clear hK K; (try simp only [Act.put, List.getElem_toArray, List.getElem_cons_zero, List.getElem_cons_succ, List.setIfInBounds_toArray, List.set_cons_zero, List.set_cons_succ]))
  try rw [decide_eq_true (rfl : P = P)]
  (refine wpAnyH_take (i := 9) (v := ?_) rfl (by kernel_rfl) (by kernel_rfl) (by kernel_rfl) (fun _ _ _ h => h) (Or.inl ⟨by rfl, ?_⟩) (by assumption) ?_; (case' refine_2 => (intro w hSw; go_simp; try with_reducible rfl)); (try simp only [Act.put, List.getElem_toArray, List.getElem_cons_zero, List.getElem_cons_succ, List.setIfInBounds_toArray, List.set_cons_zero, List.set_cons_succ]))
  (refine wpAnyH_take (i := 10) (v := ?_) rfl (by kernel_rfl) (by kernel_rfl) (by kernel_rfl) (fun _ _ _ h => h) (Or.inl ⟨by rfl, ?_⟩) (by assumption) ?_; (case' refine_2 => (intro w hSw; go_simp; try with_reducible rfl)); (try simp only [Act.put, List.getElem_toArray, List.getElem_cons_zero, List.getElem_cons_succ, List.setIfInBounds_toArray, List.set_cons_zero, List.set_cons_succ]))
  (refine wpAnyH_take (i := 11) (v := ?_) rfl (by kernel_rfl) (by kernel_rfl) (by kernel_rfl) (fun _ _ _ h => h) (Or.inl ⟨by rfl, ?_⟩) (by assumption) ?_; (case' refine_2 => (intro w hSw; go_simp; try with_reducible rfl)); (try simp only [Act.put, List.getElem_toArray, List.getElem_cons_zero, List.getElem_cons_succ, List.setIfInBounds_toArray, List.set_cons_zero, List.set_cons_succ]))
  (refine wpAnyH_take (i := 12) (v := ?_) rfl (by kernel_rfl) (by kernel_rfl) (by kernel_rfl) (fun _ _ _ h => h) (Or.inl ⟨by rfl, ?_⟩) (by assumption) ?_; (case' refine_2 => (intro w hSw; go_simp; try with_reducible rfl)); (try simp only [Act.put, List.getElem_toArray, List.getElem_cons_zero, List.getElem_cons_succ, List.setIfInBounds_toArray, List.set_cons_zero, List.set_cons_succ]))
  (refine wpAnyH_take (i := 13) (v := ?_) rfl (by kernel_rfl) (by kernel_rfl) (by kernel_rfl) (fun _ _ _ h => h) (Or.inl ⟨by rfl, ?_⟩) (by assumption) ?_; (case' refine_2 => (intro w hSw; go_simp; try with_reducible rfl)); (try simp only [Act.put, List.getElem_toArray, List.getElem_cons_zero, List.getElem_cons_succ, List.setIfInBounds_toArray, List.set_cons_zero, List.set_cons_succ]))
  (refine wpAnyH_take (i := 14) (v := ?_) rfl (by kernel_rfl) (by kernel_rfl) (by kernel_rfl) (fun _ _ _ h => h) (Or.inl ⟨by rfl, ?_⟩) (by assumption) ?_; (case' refine_2 => (intro w hSw; go_simp; try with_reducible rfl)); (try simp only [Act.put, List.getElem_toArray, List.getElem_cons_zero, List.getElem_cons_succ, List.setIfInBounds_toArray, List.set_cons_zero, List.set_cons_succ]))
  (refine wpAnyH_take (i := 15) (v := ?_) rfl (by kernel_rfl) (by kernel_rfl) (by kernel_rfl) (fun _ _ _ h => h) (Or.inl ⟨by rfl, ?_⟩) (by assumption) ?_; (case' refine_2 => (intro w hSw; go_simp; try with_reducible rfl)); (try simp only [Act.put, List.getElem_toArray, List.getElem_cons_zero, List.getElem_cons_succ, List.setIfInBounds_toArray, List.set_cons_zero, List.set_cons_succ]))
  (refine wpAnyH_take (i := 16) (v := ?_) rfl (by kernel_rfl) (by kernel_rfl) (by kernel_rfl) (fun _ _ _ h => h) (Or.inl ⟨by rfl, ?_⟩) (by assumption) ?_; (case' refine_2 => (intro w hSw; go_simp; try with_reducible rfl)); (try simp only [Act.put, List.getElem_toArray, List.getElem_cons_zero, List.getElem_cons_succ, List.setIfInBounds_toArray, List.set_cons_zero, List.set_cons_succ]))
  (refine wpAnyH_take (i := 18) (v := ?_) rfl (by kernel_rfl) (by kernel_rfl) (by kernel_rfl) (fun _ _ _ h => h) (Or.inl ⟨by rfl, ?_⟩) (by assumption) ?_; (case' refine_2 => (intro w hSw; go_simp; try with_reducible rfl)); (try simp only [Act.put, List.getElem_toArray, List.getElem_cons_zero, List.getElem_cons_succ, List.setIfInBounds_toArray, List.set_cons_zero, List.set_cons_succ]))
  (refine wpAnyH_ready (rs := [17]) (by kernel_rfl) (by simp) (AllReadyH.cons rfl (fun K hK => ?_) AllReadyH.nil); go_simp)
  refine (HP8.out _ (below_step HB.out HW.out)).mono ?_
  rintro e w11 ⟨v, rfl, ho, hb⟩
  obtain ⟨Ah, ch, rfl, hch, hrh⟩ := Kd.R_reads ho
  have HRh := Aside0.mk hrh
  clear ho hch hrh
  have n_ := Aside0.mk (below_step HW.out hb)
  clear HW hb
  have HW := n_
  clear n_
  (refine Shut.out hK _ _ (And.intro (HA5.out.below HW.out) (HA14.out.below HW.out)) (fun hHeld => ?_); clear hK K; (try simp only [Act.put, List.getElem_toArray, List.getElem_cons_zero, List.getElem_cons_succ, List.setIfInBounds_toArray, List.set_cons_zero, List.set_cons_succ]))
  (refine wpAnyH_ready (rs := [19]) (by kernel_rfl) (by simp) (AllReadyH.cons rfl (fun K hK => ?_) AllReadyH.nil); go_simp)
  refine (same_c F F _ _ _ _ _ HRh.out (Kd.C_below HRf.out HW.out) (by have := HLN.out; omega) (by have := HLN.out; omega)).mono ?_
  rintro e w12 ⟨rfl, hb⟩
  have n_ := Aside0.mk (below_step HW.out hb)
  clear HW hb
  have HW := n_
  clear n_
  (refine Shut.out hK _ _ (And.intro (HA5.out.below HW.out) (HA14.out.below HW.out)) (fun hHeld => ?_); clear hK K; (try simp only [Act.put, List.getElem_toArray, List.getElem_cons_zero, List.getElem_cons_succ, List.setIfInBounds_toArray, List.set_cons_zero, List.set_cons_succ]))
  try rw [decide_eq_true (rfl : F = F)]
  (refine wpAnyH_take (i := 20) (v := ?_) rfl (by kernel_rfl) (by kernel_rfl) (by kernel_rfl) (fun _ _ _ h => h) (Or.inl ⟨by rfl, ?_⟩) (by assumption) ?_; (case' refine_2 => (intro w hSw; go_simp; try with_reducible rfl)); (try simp only [Act.put, List.getElem_toArray, List.getElem_cons_zero, List.getElem_cons_succ, List.setIfInBounds_toArray, List.set_cons_zero, List.set_cons_succ]))
  (refine wpAnyH_take (i := 21) (v := ?_) rfl (by kernel_rfl) (by kernel_rfl) (by kernel_rfl) (fun _ _ _ h => h) (Or.inl ⟨by rfl, ?_⟩) (by assumption) ?_; (case' refine_2 => (intro w hSw; go_simp; try with_reducible rfl)); (try simp only [Act.put, List.getElem_toArray, List.getElem_cons_zero, List.getElem_cons_succ, List.setIfInBounds_toArray, List.set_cons_zero, List.set_cons_succ]))
  (refine wpAnyH_take (i := 22) (v := ?_) rfl (by kernel_rfl) (by kernel_rfl) (by kernel_rfl) (fun _ _ _ h => h) (Or.inl ⟨by rfl, ?_⟩) (by assumption) ?_; (case' refine_2 => (intro w hSw; go_simp; try with_reducible rfl)); (try simp only [Act.put, List.getElem_toArray, List.getElem_cons_zero, List.getElem_cons_succ, List.setIfInBounds_toArray, List.set_cons_zero, List.set_cons_succ]))
  (refine wpAnyH_take (i := 23) (v := ?_) rfl (by kernel_rfl) (by kernel_rfl) (by kernel_rfl) (fun _ _ _ h => h) (Or.inl ⟨by rfl, ?_⟩) (by assumption) ?_; (case' refine_2 => (intro w hSw; go_simp; try with_reducible rfl)); (try simp only [Act.put, List.getElem_toArray, List.getElem_cons_zero, List.getElem_cons_succ, List.setIfInBounds_toArray, List.set_cons_zero, List.set_cons_succ]))
  (refine wpAnyH_take (i := 24) (v := ?_) rfl (by kernel_rfl) (by kernel_rfl) (by kernel_rfl) (fun _ _ _ h => h) (Or.inl ⟨by rfl, ?_⟩) (by assumption) ?_; (case' refine_2 => (intro w hSw; go_simp; try with_reducible rfl)); (try simp only [Act.put, List.getElem_toArray, List.getElem_cons_zero, List.getElem_cons_succ, List.setIfInBounds_toArray, List.set_cons_zero, List.set_cons_succ]))
  (refine wpAnyH_take (i := 25) (v := ?_) rfl (by kernel_rfl) (by kernel_rfl) (by kernel_rfl) (fun _ _ _ h => h) (Or.inl ⟨by rfl, ?_⟩) (by assumption) ?_; (case' refine_2 => (intro w hSw; go_simp; try with_reducible rfl)); (try simp only [Act.put, List.getElem_toArray, List.getElem_cons_zero, List.getElem_cons_succ, List.setIfInBounds_toArray, List.set_cons_zero, List.set_cons_succ]))
  (refine wpAnyH_take (i := 27) (v := ?_) rfl (by kernel_rfl) (by kernel_rfl) (by kernel_rfl) (fun _ _ _ h => h) (Or.inl ⟨by rfl, ?_⟩) (by assumption) ?_; (case' refine_2 => (intro w hSw; go_simp; try with_reducible rfl)); (try simp only [Act.put, List.getElem_toArray, List.getElem_cons_zero, List.getElem_cons_succ, List.setIfInBounds_toArray, List.set_cons_zero, List.set_cons_succ]))
  (refine wpAnyH_take (i := 29) rfl (by kernel_rfl) (by kernel_rfl) (by kernel_rfl) (fun _ _ _ h => h) (yieldsIf_load_at (by rfl) _ _ rfl ⟨w.heap.size, 0, none⟩ rfl LF _ (fun _ h => h.1) (by assumption) rfl HIL.out) (by assumption) ?_; (try simp only [Act.put, List.getElem_toArray, List.getElem_cons_zero, List.getElem_cons_succ, List.setIfInBounds_toArray, List.set_cons_zero, List.set_cons_succ]))
  refine wpAnyH_ready (rs := [26, 30]) (by kernel_rfl) (by simp) (AllReadyH.cons rfl (fun K hK => ?_) (AllReadyH.cons rfl (fun K hK => ?_) AllReadyH.nil))
  · have HLE0 := Aside0.mk (show w7.heap.size ≤ w12.heap.size from HW.out.size)
    rw [if_pos (by rfl)]
    refine wp_sum0 rfl ?_
    have HV := Aside0.mk (show Os (w12.alloc (.cells #[] 24)) w12.heap.size (.slice (some ⟨w12.heap.size, 0, none⟩) 0 0) [] from lit_R KS w12 24 (okp := fun _ => False) (xs := []) (inner := []) (Reps.none _ _) (by simp))
    obtain ⟨g26, hg26⟩ : ∃ g, w12.heap.size = g := ⟨_, rfl⟩
    obtain ⟨w26, hw26⟩ : ∃ W', w12.alloc (.cells #[] 24) = W' := ⟨_, rfl⟩
    have HG26 := Aside0.mk (show w26.heap.size = g26 + 1 from by rw [← hw26, ← hg26]; simp)
    have HE26 := Aside0.mk hg26
    have hb := below_alloc (Below.refl w12.heap.size w12) (.cells #[] 24)
    rw [hw26] at HV hb ⊢
    rw [hg26] at HV ⊢
    have n_ := Aside0.mk (below_step HW.out hb)
    clear HW
    have HW := n_
    clear n_
    clear hb hw26 hg26
    (refine Shut.out hK _ _ (And.intro (HA5.out.below HW.out) (HA14.out.below HW.out)) (fun hHeld => ?_); clear hK K; (try simp only [Act.put, List.getElem_toArray, List.getElem_cons_zero, List.getElem_cons_succ, List.setIfInBounds_toArray, List.set_cons_zero, List.set_cons_succ]))
    have HLE := Aside0.mk (show w7.heap.size ≤ g26 from by have := HLE0.out; have := HE26.out; omega)
    refine wpAnyH_ready (rs := [28, 30]) (by kernel_rfl) (by simp) (AllReadyH.cons rfl (fun K hK => ?_) (AllReadyH.cons rfl (fun K hK => ?_) AllReadyH.nil))
    · refine Kd.R_append_rows_step KS (w0 := w7) w7.heap.size rfl (.tmp 75) (.tmp 76) 52 24 (.agg Z32) 32 rfl Try.underlying52 info_sums rfl (by decide) (by omega) _ [] l _ n c (fun _ => True) (fun _ => False) rfl rfl (Kd.R_lower HV.out HLE.out) (by have h := Kd.C_below HRL.out (below_step HB.out HW.out); rw [HLN.out.1] at h; exact h) (fun _ _ h => h) (fun _ h => h.elim) (fun _ _ => trivial) HW.out HW.out.size (by have := HLN.out.2.1; simp only [List.length_nil]; omega) ?_
      intro v28 w28 ho hb hg hat
      have HV28 := Aside0.mk (show Os w28 w7.heap.size v28 l from ho)
      have n_ := Aside0.mk (hb)
      clear HW
      have HW := n_
      clear n_
      clear ho hb hg hat
      (refine Shut.out hK _ _ (And.intro (HA5.out.below HW.out) (HA14.out.below HW.out)) (fun hHeld => ?_); clear hK K; (try simp only [Act.put, List.getElem_toArray, List.getElem_cons_zero, List.getElem_cons_succ, List.setIfInBounds_toArray, List.set_cons_zero, List.set_cons_succ]))
      refine wpAnyH_ready (rs := [30]) (by kernel_rfl) (by simp) (AllReadyH.cons rfl (fun K hK => ?_) AllReadyH.nil)
      rw [if_pos (by rfl)]
      refine wp_sum1 (.tmp 78) rfl LF rfl HL.out.lenC ?_
      have HX := Aside0.mk (os_one HL.out w28)
      obtain ⟨g30, hg30⟩ : ∃ g, w28.heap.size = g := ⟨_, rfl⟩
      obtain ⟨w30, hw30⟩ : ∃ W', w28.alloc (.cells LF.toArray 24) = W' := ⟨_, rfl⟩
      have HG30 := Aside0.mk (show w30.heap.size = g30 + 1 from by rw [← hw30, ← hg30]; simp)
      have HE30 := Aside0.mk hg30
      have hb := below_alloc (Below.refl w28.heap.size w28) (.cells LF.toArray 24)
      rw [hw30] at HX hb ⊢
      rw [hg30] at HX ⊢
      have n_ := Aside0.mk (below_step HW.out hb)
      clear HW
      have HW := n_
      clear n_
      have n_ := Aside0.mk (Kd.R_below HV28.out hb)
      clear HV28
      have HV28 := n_
      clear n_
      clear hb hw30 hg30
      (refine Shut.out hK _ _ (And.intro (HA5.out.below HW.out) (HA14.out.below HW.out)) (fun hHeld => ?_); clear hK K; (try simp only [Act.put, List.getElem_toArray, List.getElem_cons_zero, List.getElem_cons_succ, List.setIfInBounds_toArray, List.set_cons_zero, List.set_cons_succ]))
      refine wpAnyH_ready (rs := [31]) (by kernel_rfl) (by simp) (AllReadyH.cons rfl (fun K hK => ?_) AllReadyH.nil)
      refine Kd.R_append_rows_step KS (w0 := w7) w7.heap.size rfl (.tmp 77) (.tmp 79) 52 24 (.agg Z32) 32 rfl Try.underlying52 info_sums rfl (by decide) (by omega) v28 l [leaf] _ 1 1 (fun _ => True) (fun _ => False) rfl rfl HV28.out (rs_of_os HX.out) (fun _ _ h => h) (fun _ h => h.elim) (fun _ _ => trivial) HW.out HW.out.size (by have := HLN.out.1; have := HLN.out.2.1; omega) ?_
      intro v31 w31 ho hb hg hat
      obtain ⟨A31, c31, rfl, hc31, hr31⟩ := Kd.R_reads ho
      rw [HLN.out.2.2.2.2.2] at hc31 hr31 ⊢
      have HR31 := Aside0.mk (show Rs w31 A31 (l ++ [leaf]) from by rw [← HLN.out.2.2.2.2.2] at hr31; exact hr31)
      have HC31 := Aside0.mk hc31
      have n_ := Aside0.mk (hb)
      clear HW
      have HW := n_
      clear n_
      clear ho hb hg hat hc31 hr31
      (refine Shut.out hK _ _ (And.intro (HA5.out.below HW.out) (HA14.out.below HW.out)) (fun hHeld => ?_); clear hK K; (try simp only [Act.put, List.getElem_toArray, List.getElem_cons_zero, List.getElem_cons_succ, List.setIfInBounds_toArray, List.set_cons_zero, List.set_cons_succ]))
      (refine wpAnyH_ready (rs := [32]) (by kernel_rfl) (by simp) (AllReadyH.cons rfl (fun K hK => ?_) AllReadyH.nil); go_simp)
      refine (HP9.out _ _ HC31.out _ HR31.out).mono ?_
      rintro e w32 ⟨v, rfl, ho, hb⟩
      obtain ⟨Ak, ck, rfl, hck, hrk⟩ := Kd.R_reads ho
      have HRk := Aside0.mk hrk
      clear ho hck hrk
      have n_ := Aside0.mk (below_step HW.out hb)
      clear HW hb
      have HW := n_
      clear n_
      (refine Shut.out hK _ _ (And.intro (HA5.out.below HW.out) (HA14.out.below HW.out)) (fun hHeld => ?_); clear hK K; (try simp only [Act.put, List.getElem_toArray, List.getElem_cons_zero, List.getElem_cons_succ, List.setIfInBounds_toArray, List.set_cons_zero, List.set_cons_succ]))
      (refine wpAnyH_ready (rs := [33]) (by kernel_rfl) (by simp) (AllReadyH.cons rfl (fun K hK => ?_) AllReadyH.nil); go_simp)
      refine (same_c G G _ _ _ _ _ (Kd.C_below HRg.out HW.out) HRk.out (by have := HLN.out; omega) (by have := HLN.out; omega)).mono ?_
      rintro e w33 ⟨rfl, hb⟩
      have n_ := Aside0.mk (below_step HW.out hb)
      clear HW hb
      have HW := n_
      clear n_
      (refine Shut.out hK _ _ (And.intro (HA5.out.below HW.out) (HA14.out.below HW.out)) (fun hHeld => ?_); clear hK K; (try simp only [Act.put, List.getElem_toArray, List.getElem_cons_zero, List.getElem_cons_succ, List.setIfInBounds_toArray, List.set_cons_zero, List.set_cons_succ]))
      try rw [decide_eq_true (rfl : G = G)]
      (refine wpAnyH_take (i := 34) (v := ?_) rfl (by kernel_rfl) (by kernel_rfl) (by kernel_rfl) (fun _ _ _ h => h) (Or.inl ⟨by rfl, ?_⟩) (by assumption) ?_; (case' refine_2 => (intro w hSw; go_simp; try with_reducible rfl)); (try simp only [Act.put, List.getElem_toArray, List.getElem_cons_zero, List.getElem_cons_succ, List.setIfInBounds_toArray, List.set_cons_zero, List.set_cons_succ]))
      (refine wpAnyH_take (i := 35) (v := ?_) rfl (by kernel_rfl) (by kernel_rfl) (by kernel_rfl) (fun _ _ _ h => h) (Or.inl ⟨by rfl, ?_⟩) (by assumption) ?_; (case' refine_2 => (intro w hSw; go_simp; try with_reducible rfl)); (try simp only [Act.put, List.getElem_toArray, List.getElem_cons_zero, List.getElem_cons_succ, List.setIfInBounds_toArray, List.set_cons_zero, List.set_cons_succ]))
      (refine wpAnyH_take (i := 36) (v := ?_) rfl (by kernel_rfl) (by kernel_rfl) (by kernel_rfl) (fun _ _ _ h => h) (Or.inl ⟨by rfl, ?_⟩) (by assumption) ?_; (case' refine_2 => (intro w hSw; go_simp; try with_reducible rfl)); (try simp only [Act.put, List.getElem_toArray, List.getElem_cons_zero, List.getElem_cons_succ, List.setIfInBounds_toArray, List.set_cons_zero, List.set_cons_succ]))
      (refine wpAnyH_take (i := 37) (v := ?_) rfl (by kernel_rfl) (by kernel_rfl) (by kernel_rfl) (fun _ _ _ h => h) (Or.inl ⟨by rfl, ?_⟩) (by assumption) ?_; (case' refine_2 => (intro w hSw; go_simp; try with_reducible rfl)); (try simp only [Act.put, List.getElem_toArray, List.getElem_cons_zero, List.getElem_cons_succ, List.setIfInBounds_toArray, List.set_cons_zero, List.set_cons_succ]))
      (refine wpAnyH_take (i := 38) (v := ?_) rfl (by kernel_rfl) (by kernel_rfl) (by kernel_rfl) (fun _ _ _ h => h) (Or.inl ⟨by rfl, ?_⟩) (by assumption) ?_; (case' refine_2 => (intro w hSw; go_simp; try with_reducible rfl)); (try simp only [Act.put, List.getElem_toArray, List.getElem_cons_zero, List.getElem_cons_succ, List.setIfInBounds_toArray, List.set_cons_zero, List.set_cons_succ]))
      (refine wpAnyH_take (i := 39) rfl (by kernel_rfl) (by kernel_rfl) (by kernel_rfl) (fun _ _ _ h => h) (yieldsIf_load_at (by rfl) _ _ rfl ⟨wd.heap.size, 0, none⟩ rfl D _ (fun _ h => h.2) (by assumption) rfl HID.out) (by assumption) ?_; (try simp only [Act.put, List.getElem_toArray, List.getElem_cons_zero, List.getElem_cons_succ, List.setIfInBounds_toArray, List.set_cons_zero, List.set_cons_succ]))
      (refine wpAnyH_take (i := 40) (v := ?_) rfl (by kernel_rfl) (by kernel_rfl) (by kernel_rfl) (fun _ _ _ h => h) (Or.inl ⟨by rfl, ?_⟩) (by assumption) ?_; (case' refine_2 => (intro w hSw; go_simp; try with_reducible rfl)); (try simp only [Act.put, List.getElem_toArray, List.getElem_cons_zero, List.getElem_cons_succ, List.setIfInBounds_toArray, List.set_cons_zero, List.set_cons_succ]))
      (refine wpAnyH_ready (rs := [41]) (by kernel_rfl) (by simp) (AllReadyH.cons rfl (fun K hK => ?_) AllReadyH.nil); go_simp)
      refine (HP7.out _ (below_step HB.out HW.out)).mono ?_
      rintro e w34 ⟨rfl, hb⟩
      have n_ := Aside0.mk (below_step HW.out hb)
      clear HW hb
      have HW := n_
      clear n_
      (refine Shut.out hK _ _ (And.intro (HA5.out.below HW.out) (HA14.out.below HW.out)) (fun hHeld => ?_); clear hK K; (try simp only [Act.put, List.getElem_toArray, List.getElem_cons_zero, List.getElem_cons_succ, List.setIfInBounds_toArray, List.set_cons_zero, List.set_cons_succ]))
      (refine wpAnyH_take (i := 42) (v := ?_) rfl (by kernel_rfl) (by kernel_rfl) (by kernel_rfl) (fun _ _ _ h => h) (Or.inl ⟨by rfl, ?_⟩) (by assumption) ?_; (case' refine_2 => (intro w hSw; go_simp; try with_reducible rfl)); (try simp only [Act.put, List.getElem_toArray, List.getElem_cons_zero, List.getElem_cons_succ, List.setIfInBounds_toArray, List.set_cons_zero, List.set_cons_succ]))
      (refine wpAnyH_take (i := 43) (v := ?_) rfl (by kernel_rfl) (by kernel_rfl) (by kernel_rfl) (fun _ _ _ h => h) (Or.inl ⟨by rfl, ?_⟩) (by assumption) ?_; (case' refine_2 => (intro w hSw; go_simp; try with_reducible rfl)); (try simp only [Act.put, List.getElem_toArray, List.getElem_cons_zero, List.getElem_cons_succ, List.setIfInBounds_toArray, List.set_cons_zero, List.set_cons_succ]))
      (refine wpAnyH_take (i := 44) (v := ?_) rfl (by kernel_rfl) (by kernel_rfl) (by kernel_rfl) (fun _ _ _ h => h) (Or.inl ⟨by rfl, ?_⟩) (by assumption) ?_; (case' refine_2 => (intro w hSw; go_simp; try with_reducible rfl)); (try simp only [Act.put, List.getElem_toArray, List.getElem_cons_zero, List.getElem_cons_succ, List.setIfInBounds_toArray, List.set_cons_zero, List.set_cons_succ]))
      (refine wpAnyH_ready (rs := [45]) (by kernel_rfl) (by simp) (AllReadyH.cons rfl (fun K hK => ?_) AllReadyH.nil); go_simp)
      refine (live26_c _).mono ?_
      rintro e w35 ⟨rfl, hb⟩
      have n_ := Aside0.mk (below_step HW.out hb)
      clear HW hb
      have HW := n_
      clear n_
      (refine Shut.out hK _ _ (And.intro (HA5.out.below HW.out) (HA14.out.below HW.out)) (fun hHeld => ?_); clear hK K; (try simp only [Act.put, List.getElem_toArray, List.getElem_cons_zero, List.getElem_cons_succ, List.setIfInBounds_toArray, List.set_cons_zero, List.set_cons_succ]))
      (refine wpAnyH_take (i := 46) (v := ?_) rfl (by kernel_rfl) (by kernel_rfl) (by kernel_rfl) (fun _ _ _ h => h) (Or.inl ⟨by rfl, ?_⟩) (by assumption) ?_; (case' refine_2 => (intro w hSw; go_simp; try with_reducible rfl)); (try simp only [Act.put, List.getElem_toArray, List.getElem_cons_zero, List.getElem_cons_succ, List.setIfInBounds_toArray, List.set_cons_zero, List.set_cons_succ]))
      (refine wpAnyH_take (i := 47) (v := ?_) rfl (by kernel_rfl) (by kernel_rfl) (by kernel_rfl) (fun _ _ _ h => h) (Or.inl ⟨by rfl, ?_⟩) (by assumption) ?_; (case' refine_2 => (intro w hSw; go_simp; try with_reducible rfl)); (try simp only [Act.put, List.getElem_toArray, List.getElem_cons_zero, List.getElem_cons_succ, List.setIfInBounds_toArray, List.set_cons_zero, List.set_cons_succ]))
      refine wpAnyH_done (by kernel_rfl) ?_ _
      go_wp2_with (fail)
      go_ret
      exact ⟨rfl, below_step HB.out HW.out⟩
    · rw [if_pos (by rfl)]
      refine wp_sum1 (.tmp 78) rfl LF rfl HL.out.lenC ?_
      have HX := Aside0.mk (os_one HL.out w26)
      obtain ⟨g30, hg30⟩ : ∃ g, w26.heap.size = g := ⟨_, rfl⟩
      obtain ⟨w30, hw30⟩ : ∃ W', w26.alloc (.cells LF.toArray 24) = W' := ⟨_, rfl⟩
      have HG30 := Aside0.mk (show w30.heap.size = g30 + 1 from by rw [← hw30, ← hg30]; simp)
      have HE30 := Aside0.mk hg30
      have hb := below_alloc (Below.refl w26.heap.size w26) (.cells LF.toArray 24)
      rw [hw30] at HX hb ⊢
      rw [hg30] at HX ⊢
      have n_ := Aside0.mk (below_step HW.out hb)
      clear HW
      have HW := n_
      clear n_
      have n_ := Aside0.mk (Kd.R_below HV.out hb)
      clear HV
      have HV := n_
      clear n_
      clear hb hw30 hg30
      (refine Shut.out hK _ _ (And.intro (HA5.out.below HW.out) (HA14.out.below HW.out)) (fun hHeld => ?_); clear hK K; (try simp only [Act.put, List.getElem_toArray, List.getElem_cons_zero, List.getElem_cons_succ, List.setIfInBounds_toArray, List.set_cons_zero, List.set_cons_succ]))
      refine wpAnyH_ready (rs := [28]) (by kernel_rfl) (by simp) (AllReadyH.cons rfl (fun K hK => ?_) AllReadyH.nil)
      refine Kd.R_append_rows_step KS (w0 := w7) w7.heap.size rfl (.tmp 75) (.tmp 76) 52 24 (.agg Z32) 32 rfl Try.underlying52 info_sums rfl (by decide) (by omega) _ [] l _ n c (fun _ => True) (fun _ => False) rfl rfl (Kd.R_lower HV.out HLE.out) (by have h := Kd.C_below HRL.out (below_step HB.out HW.out); rw [HLN.out.1] at h; exact h) (fun _ _ h => h) (fun _ h => h.elim) (fun _ _ => trivial) HW.out HW.out.size (by have := HLN.out.2.1; simp only [List.length_nil]; omega) ?_
      intro v28 w28 ho hb hg hat
      have HV28 := Aside0.mk (show Os w28 w7.heap.size v28 l from ho)
      have n_ := Aside0.mk (os_other HX.out hg (show g26 < g30 by have := HE30.out; have := HG26.out; omega))
      clear HX
      have HX := n_
      clear n_
      have n_ := Aside0.mk (hb)
      clear HW
      have HW := n_
      clear n_
      clear ho hb hg hat
      (refine Shut.out hK _ _ (And.intro (HA5.out.below HW.out) (HA14.out.below HW.out)) (fun hHeld => ?_); clear hK K; (try simp only [Act.put, List.getElem_toArray, List.getElem_cons_zero, List.getElem_cons_succ, List.setIfInBounds_toArray, List.set_cons_zero, List.set_cons_succ]))
      refine wpAnyH_ready (rs := [31]) (by kernel_rfl) (by simp) (AllReadyH.cons rfl (fun K hK => ?_) AllReadyH.nil)
      refine Kd.R_append_rows_step KS (w0 := w7) w7.heap.size rfl (.tmp 77) (.tmp 79) 52 24 (.agg Z32) 32 rfl Try.underlying52 info_sums rfl (by decide) (by omega) v28 l [leaf] _ 1 1 (fun _ => True) (fun _ => False) rfl rfl HV28.out (rs_of_os HX.out) (fun _ _ h => h) (fun _ h => h.elim) (fun _ _ => trivial) HW.out HW.out.size (by have := HLN.out.1; have := HLN.out.2.1; omega) ?_
      intro v31 w31 ho hb hg hat
      obtain ⟨A31, c31, rfl, hc31, hr31⟩ := Kd.R_reads ho
      rw [HLN.out.2.2.2.2.2] at hc31 hr31 ⊢
      have HR31 := Aside0.mk (show Rs w31 A31 (l ++ [leaf]) from by rw [← HLN.out.2.2.2.2.2] at hr31; exact hr31)
      have HC31 := Aside0.mk hc31
      have n_ := Aside0.mk (hb)
      clear HW
      have HW := n_
      clear n_
      clear ho hb hg hat hc31 hr31
      (refine Shut.out hK _ _ (And.intro (HA5.out.below HW.out) (HA14.out.below HW.out)) (fun hHeld => ?_); clear hK K; (try simp only [Act.put, List.getElem_toArray, List.getElem_cons_zero, List.getElem_cons_succ, List.setIfInBounds_toArray, List.set_cons_zero, List.set_cons_succ]))
      (refine wpAnyH_ready (rs := [32]) (by kernel_rfl) (by simp) (AllReadyH.cons rfl (fun K hK => ?_) AllReadyH.nil); go_simp)
      refine (HP9.out _ _ HC31.out _ HR31.out).mono ?_
      rintro e w32 ⟨v, rfl, ho, hb⟩
      obtain ⟨Ak, ck, rfl, hck, hrk⟩ := Kd.R_reads ho
      have HRk := Aside0.mk hrk
      clear ho hck hrk
      have n_ := Aside0.mk (below_step HW.out hb)
      clear HW hb
      have HW := n_
      clear n_
      (refine Shut.out hK _ _ (And.intro (HA5.out.below HW.out) (HA14.out.below HW.out)) (fun hHeld => ?_); clear hK K; (try simp only [Act.put, List.getElem_toArray, List.getElem_cons_zero, List.getElem_cons_succ, List.setIfInBounds_toArray, List.set_cons_zero, List.set_cons_succ]))
      (refine wpAnyH_ready (rs := [33]) (by kernel_rfl) (by simp) (AllReadyH.cons rfl (fun K hK => ?_) AllReadyH.nil); go_simp)
      refine (same_c G G _ _ _ _ _ (Kd.C_below HRg.out HW.out) HRk.out (by have := HLN.out; omega) (by have := HLN.out; omega)).mono ?_
      rintro e w33 ⟨rfl, hb⟩
      have n_ := Aside0.mk (below_step HW.out hb)
      clear HW hb
      have HW := n_
      clear n_
      (refine Shut.out hK _ _ (And.intro (HA5.out.below HW.out) (HA14.out.below HW.out)) (fun hHeld => ?_); clear hK K; (try simp only [Act.put, List.getElem_toArray, List.getElem_cons_zero, List.getElem_cons_succ, List.setIfInBounds_toArray, List.set_cons_zero, List.set_cons_succ]))
      try rw [decide_eq_true (rfl : G = G)]
      (refine wpAnyH_take (i := 34) (v := ?_) rfl (by kernel_rfl) (by kernel_rfl) (by kernel_rfl) (fun _ _ _ h => h) (Or.inl ⟨by rfl, ?_⟩) (by assumption) ?_; (case' refine_2 => (intro w hSw; go_simp; try with_reducible rfl)); (try simp only [Act.put, List.getElem_toArray, List.getElem_cons_zero, List.getElem_cons_succ, List.setIfInBounds_toArray, List.set_cons_zero, List.set_cons_succ]))
      (refine wpAnyH_take (i := 35) (v := ?_) rfl (by kernel_rfl) (by kernel_rfl) (by kernel_rfl) (fun _ _ _ h => h) (Or.inl ⟨by rfl, ?_⟩) (by assumption) ?_; (case' refine_2 => (intro w hSw; go_simp; try with_reducible rfl)); (try simp only [Act.put, List.getElem_toArray, List.getElem_cons_zero, List.getElem_cons_succ, List.setIfInBounds_toArray, List.set_cons_zero, List.set_cons_succ]))
      (refine wpAnyH_take (i := 36) (v := ?_) rfl (by kernel_rfl) (by kernel_rfl) (by kernel_rfl) (fun _ _ _ h => h) (Or.inl ⟨by rfl, ?_⟩) (by assumption) ?_; (case' refine_2 => (intro w hSw; go_simp; try with_reducible rfl)); (try simp only [Act.put, List.getElem_toArray, List.getElem_cons_zero, List.getElem_cons_succ, List.setIfInBounds_toArray, List.set_cons_zero, List.set_cons_succ]))
      (refine wpAnyH_take (i := 37) (v := ?_) rfl (by kernel_rfl) (by kernel_rfl) (by kernel_rfl) (fun _ _ _ h => h) (Or.inl ⟨by rfl, ?_⟩) (by assumption) ?_; (case' refine_2 => (intro w hSw; go_simp; try with_reducible rfl)); (try simp only [Act.put, List.getElem_toArray, List.getElem_cons_zero, List.getElem_cons_succ, List.setIfInBounds_toArray, List.set_cons_zero, List.set_cons_succ]))
      (refine wpAnyH_take (i := 38) (v := ?_) rfl (by kernel_rfl) (by kernel_rfl) (by kernel_rfl) (fun _ _ _ h => h) (Or.inl ⟨by rfl, ?_⟩) (by assumption) ?_; (case' refine_2 => (intro w hSw; go_simp; try with_reducible rfl)); (try simp only [Act.put, List.getElem_toArray, List.getElem_cons_zero, List.getElem_cons_succ, List.setIfInBounds_toArray, List.set_cons_zero, List.set_cons_succ]))
      (refine wpAnyH_take (i := 39) rfl (by kernel_rfl) (by kernel_rfl) (by kernel_rfl) (fun _ _ _ h => h) (yieldsIf_load_at (by rfl) _ _ rfl ⟨wd.heap.size, 0, none⟩ rfl D _ (fun _ h => h.2) (by assumption) rfl HID.out) (by assumption) ?_; (try simp only [Act.put, List.getElem_toArray, List.getElem_cons_zero, List.getElem_cons_succ, List.setIfInBounds_toArray, List.set_cons_zero, List.set_cons_succ]))
      (refine wpAnyH_take (i := 40) (v := ?_) rfl (by kernel_rfl) (by kernel_rfl) (by kernel_rfl) (fun _ _ _ h => h) (Or.inl ⟨by rfl, ?_⟩) (by assumption) ?_; (case' refine_2 => (intro w hSw; go_simp; try with_reducible rfl)); (try simp only [Act.put, List.getElem_toArray, List.getElem_cons_zero, List.getElem_cons_succ, List.setIfInBounds_toArray, List.set_cons_zero, List.set_cons_succ]))
      (refine wpAnyH_ready (rs := [41]) (by kernel_rfl) (by simp) (AllReadyH.cons rfl (fun K hK => ?_) AllReadyH.nil); go_simp)
      refine (HP7.out _ (below_step HB.out HW.out)).mono ?_
      rintro e w34 ⟨rfl, hb⟩
      have n_ := Aside0.mk (below_step HW.out hb)
      clear HW hb
      have HW := n_
      clear n_
      (refine Shut.out hK _ _ (And.intro (HA5.out.below HW.out) (HA14.out.below HW.out)) (fun hHeld => ?_); clear hK K; (try simp only [Act.put, List.getElem_toArray, List.getElem_cons_zero, List.getElem_cons_succ, List.setIfInBounds_toArray, List.set_cons_zero, List.set_cons_succ]))
      (refine wpAnyH_take (i := 42) (v := ?_) rfl (by kernel_rfl) (by kernel_rfl) (by kernel_rfl) (fun _ _ _ h => h) (Or.inl ⟨by rfl, ?_⟩) (by assumption) ?_; (case' refine_2 => (intro w hSw; go_simp; try with_reducible rfl)); (try simp only [Act.put, List.getElem_toArray, List.getElem_cons_zero, List.getElem_cons_succ, List.setIfInBounds_toArray, List.set_cons_zero, List.set_cons_succ]))
      (refine wpAnyH_take (i := 43) (v := ?_) rfl (by kernel_rfl) (by kernel_rfl) (by kernel_rfl) (fun _ _ _ h => h) (Or.inl ⟨by rfl, ?_⟩) (by assumption) ?_; (case' refine_2 => (intro w hSw; go_simp; try with_reducible rfl)); (try simp only [Act.put, List.getElem_toArray, List.getElem_cons_zero, List.getElem_cons_succ, List.setIfInBounds_toArray, List.set_cons_zero, List.set_cons_succ]))
      (refine wpAnyH_take (i := 44) (v := ?_) rfl (by kernel_rfl) (by kernel_rfl) (by kernel_rfl) (fun _ _ _ h => h) (Or.inl ⟨by rfl, ?_⟩) (by assumption) ?_; (case' refine_2 => (intro w hSw; go_simp; try with_reducible rfl)); (try simp only [Act.put, List.getElem_toArray, List.getElem_cons_zero, List.getElem_cons_succ, List.setIfInBounds_toArray, List.set_cons_zero, List.set_cons_succ]))
      (refine wpAnyH_ready (rs := [45]) (by kernel_rfl) (by simp) (AllReadyH.cons rfl (fun K hK => ?_) AllReadyH.nil); go_simp)
      refine (live26_c _).mono ?_
      rintro e w35 ⟨rfl, hb⟩
      have n_ := Aside0.mk (below_step HW.out hb)
      clear HW hb
      have HW := n_
      clear n_
      (refine Shut.out hK _ _ (And.intro (HA5.out.below HW.out) (HA14.out.below HW.out)) (fun hHeld => ?_); clear hK K; (try simp only [Act.put, List.getElem_toArray, List.getElem_cons_zero, List.getElem_cons_succ, List.setIfInBounds_toArray, List.set_cons_zero, List.set_cons_succ]))
      (refine wpAnyH_take (i := 46) (v := ?_) rfl (by kernel_rfl) (by kernel_rfl) (by kernel_rfl) (fun _ _ _ h => h) (Or.inl ⟨by rfl, ?_⟩) (by assumption) ?_; (case' refine_2 => (intro w hSw; go_simp; try with_reducible rfl)); (try simp only [Act.put, List.getElem_toArray, List.getElem_cons_zero, List.getElem_cons_succ, List.setIfInBounds_toArray, List.set_cons_zero, List.set_cons_succ]))
      (refine wpAnyH_take (i := 47) (v := ?_) rfl (by kernel_rfl) (by kernel_rfl) (by kernel_rfl) (fun _ _ _ h => h) (Or.inl ⟨by rfl, ?_⟩) (by assumption) ?_; (case' refine_2 => (intro w hSw; go_simp; try with_reducible rfl)); (try simp only [Act.put, List.getElem_toArray, List.getElem_cons_zero, List.getElem_cons_succ, List.setIfInBounds_toArray, List.set_cons_zero, List.set_cons_succ]))
      refine wpAnyH_done (by kernel_rfl) ?_ _
      go_wp2_with (fail)
      go_ret
      exact ⟨rfl, below_step HB.out HW.out⟩
  · have HLE0 := Aside0.mk (show w7.heap.size ≤ w12.heap.size from HW.out.size)
    rw [if_pos (by rfl)]
    refine wp_sum1 (.tmp 78) rfl LF rfl HL.out.lenC ?_
    have HX := Aside0.mk (os_one HL.out w12)
    obtain ⟨g30, hg30⟩ : ∃ g, w12.heap.size = g := ⟨_, rfl⟩
    obtain ⟨w30, hw30⟩ : ∃ W', w12.alloc (.cells LF.toArray 24) = W' := ⟨_, rfl⟩
    have HG30 := Aside0.mk (show w30.heap.size = g30 + 1 from by rw [← hw30, ← hg30]; simp)
    have HE30 := Aside0.mk hg30
    have hb := below_alloc (Below.refl w12.heap.size w12) (.cells LF.toArray 24)
    rw [hw30] at HX hb ⊢
    rw [hg30] at HX ⊢
    have n_ := Aside0.mk (below_step HW.out hb)
    clear HW
    have HW := n_
    clear n_
    clear hb hw30 hg30
    (refine Shut.out hK _ _ (And.intro (HA5.out.below HW.out) (HA14.out.below HW.out)) (fun hHeld => ?_); clear hK K; (try simp only [Act.put, List.getElem_toArray, List.getElem_cons_zero, List.getElem_cons_succ, List.setIfInBounds_toArray, List.set_cons_zero, List.set_cons_succ]))
    refine wpAnyH_ready (rs := [26]) (by kernel_rfl) (by simp) (AllReadyH.cons rfl (fun K hK => ?_) AllReadyH.nil)
    rw [if_pos (by rfl)]
    refine wp_sum0 rfl ?_
    have HV := Aside0.mk (show Os (w30.alloc (.cells #[] 24)) w30.heap.size (.slice (some ⟨w30.heap.size, 0, none⟩) 0 0) [] from lit_R KS w30 24 (okp := fun _ => False) (xs := []) (inner := []) (Reps.none _ _) (by simp))
    obtain ⟨g26, hg26⟩ : ∃ g, w30.heap.size = g := ⟨_, rfl⟩
    obtain ⟨w26, hw26⟩ : ∃ W', w30.alloc (.cells #[] 24) = W' := ⟨_, rfl⟩
    have HG26 := Aside0.mk (show w26.heap.size = g26 + 1 from by rw [← hw26, ← hg26]; simp)
    have HE26 := Aside0.mk hg26
    have hb := below_alloc (Below.refl w30.heap.size w30) (.cells #[] 24)
    rw [hw26] at HV hb ⊢
    rw [hg26] at HV ⊢
    have HLE := Aside0.mk (show w7.heap.size ≤ g26 from by rw [← hg26]; exact HW.out.size)
    have n_ := Aside0.mk (below_step HW.out hb)
    clear HW
    have HW := n_
    clear n_
    have n_ := Aside0.mk (Kd.R_below HX.out hb)
    clear HX
    have HX := n_
    clear n_
    clear hb hw26 hg26
    (refine Shut.out hK _ _ (And.intro (HA5.out.below HW.out) (HA14.out.below HW.out)) (fun hHeld => ?_); clear hK K; (try simp only [Act.put, List.getElem_toArray, List.getElem_cons_zero, List.getElem_cons_succ, List.setIfInBounds_toArray, List.set_cons_zero, List.set_cons_succ]))
    refine wpAnyH_ready (rs := [28]) (by kernel_rfl) (by simp) (AllReadyH.cons rfl (fun K hK => ?_) AllReadyH.nil)
    refine Kd.R_append_rows_step KS (w0 := w7) w7.heap.size rfl (.tmp 75) (.tmp 76) 52 24 (.agg Z32) 32 rfl Try.underlying52 info_sums rfl (by decide) (by omega) _ [] l _ n c (fun _ => True) (fun _ => False) rfl rfl (Kd.R_lower HV.out HLE.out) (by have h := Kd.C_below HRL.out (below_step HB.out HW.out); rw [HLN.out.1] at h; exact h) (fun _ _ h => h) (fun _ h => h.elim) (fun _ _ => trivial) HW.out HW.out.size (by have := HLN.out.2.1; simp only [List.length_nil]; omega) ?_
    intro v28 w28 ho hb hg hat
    have HV28 := Aside0.mk (show Os w28 w7.heap.size v28 l from ho)
    have n_ := Aside0.mk (rs_of_os HX.out)
    clear HX
    have HX := n_
    clear n_
    have n_ := Aside0.mk (rs_other HX.out hg (show g30 ≠ g26 by have := HE26.out; have := HG30.out; omega) (by have := HE26.out; have := HG30.out; have := HG26.out; omega))
    clear HX
    have HX := n_
    clear n_
    have n_ := Aside0.mk (hb)
    clear HW
    have HW := n_
    clear n_
    clear ho hb hg hat
    (refine Shut.out hK _ _ (And.intro (HA5.out.below HW.out) (HA14.out.below HW.out)) (fun hHeld => ?_); clear hK K; (try simp only [Act.put, List.getElem_toArray, List.getElem_cons_zero, List.getElem_cons_succ, List.setIfInBounds_toArray, List.set_cons_zero, List.set_cons_succ]))
    refine wpAnyH_ready (rs := [31]) (by kernel_rfl) (by simp) (AllReadyH.cons rfl (fun K hK => ?_) AllReadyH.nil)
    refine Kd.R_append_rows_step KS (w0 := w7) w7.heap.size rfl (.tmp 77) (.tmp 79) 52 24 (.agg Z32) 32 rfl Try.underlying52 info_sums rfl (by decide) (by omega) v28 l [leaf] _ 1 1 (fun _ => True) (fun _ => False) rfl rfl HV28.out HX.out (fun _ _ h => h) (fun _ h => h.elim) (fun _ _ => trivial) HW.out HW.out.size (by have := HLN.out.1; have := HLN.out.2.1; omega) ?_
    intro v31 w31 ho hb hg hat
    obtain ⟨A31, c31, rfl, hc31, hr31⟩ := Kd.R_reads ho
    rw [HLN.out.2.2.2.2.2] at hc31 hr31 ⊢
    have HR31 := Aside0.mk (show Rs w31 A31 (l ++ [leaf]) from by rw [← HLN.out.2.2.2.2.2] at hr31; exact hr31)
    have HC31 := Aside0.mk hc31
    have n_ := Aside0.mk (hb)
    clear HW
    have HW := n_
    clear n_
    clear ho hb hg hat hc31 hr31
    (refine Shut.out hK _ _ (And.intro (HA5.out.below HW.out) (HA14.out.below HW.out)) (fun hHeld => ?_); clear hK K; (try simp only [Act.put, List.getElem_toArray, List.getElem_cons_zero, List.getElem_cons_succ, List.setIfInBounds_toArray, List.set_cons_zero, List.set_cons_succ]))
    (refine wpAnyH_ready (rs := [32]) (by kernel_rfl) (by simp) (AllReadyH.cons rfl (fun K hK => ?_) AllReadyH.nil); go_simp)
    refine (HP9.out _ _ HC31.out _ HR31.out).mono ?_
    rintro e w32 ⟨v, rfl, ho, hb⟩
    obtain ⟨Ak, ck, rfl, hck, hrk⟩ := Kd.R_reads ho
    have HRk := Aside0.mk hrk
    clear ho hck hrk
    have n_ := Aside0.mk (below_step HW.out hb)
    clear HW hb
    have HW := n_
    clear n_
    (refine Shut.out hK _ _ (And.intro (HA5.out.below HW.out) (HA14.out.below HW.out)) (fun hHeld => ?_); clear hK K; (try simp only [Act.put, List.getElem_toArray, List.getElem_cons_zero, List.getElem_cons_succ, List.setIfInBounds_toArray, List.set_cons_zero, List.set_cons_succ]))
    (refine wpAnyH_ready (rs := [33]) (by kernel_rfl) (by simp) (AllReadyH.cons rfl (fun K hK => ?_) AllReadyH.nil); go_simp)
    refine (same_c G G _ _ _ _ _ (Kd.C_below HRg.out HW.out) HRk.out (by have := HLN.out; omega) (by have := HLN.out; omega)).mono ?_
    rintro e w33 ⟨rfl, hb⟩
    have n_ := Aside0.mk (below_step HW.out hb)
    clear HW hb
    have HW := n_
    clear n_
    (refine Shut.out hK _ _ (And.intro (HA5.out.below HW.out) (HA14.out.below HW.out)) (fun hHeld => ?_); clear hK K; (try simp only [Act.put, List.getElem_toArray, List.getElem_cons_zero, List.getElem_cons_succ, List.setIfInBounds_toArray, List.set_cons_zero, List.set_cons_succ]))
    try rw [decide_eq_true (rfl : G = G)]
    (refine wpAnyH_take (i := 34) (v := ?_) rfl (by kernel_rfl) (by kernel_rfl) (by kernel_rfl) (fun _ _ _ h => h) (Or.inl ⟨by rfl, ?_⟩) (by assumption) ?_; (case' refine_2 => (intro w hSw; go_simp; try with_reducible rfl)); (try simp only [Act.put, List.getElem_toArray, List.getElem_cons_zero, List.getElem_cons_succ, List.setIfInBounds_toArray, List.set_cons_zero, List.set_cons_succ]))
    (refine wpAnyH_take (i := 35) (v := ?_) rfl (by kernel_rfl) (by kernel_rfl) (by kernel_rfl) (fun _ _ _ h => h) (Or.inl ⟨by rfl, ?_⟩) (by assumption) ?_; (case' refine_2 => (intro w hSw; go_simp; try with_reducible rfl)); (try simp only [Act.put, List.getElem_toArray, List.getElem_cons_zero, List.getElem_cons_succ, List.setIfInBounds_toArray, List.set_cons_zero, List.set_cons_succ]))
    (refine wpAnyH_take (i := 36) (v := ?_) rfl (by kernel_rfl) (by kernel_rfl) (by kernel_rfl) (fun _ _ _ h => h) (Or.inl ⟨by rfl, ?_⟩) (by assumption) ?_; (case' refine_2 => (intro w hSw; go_simp; try with_reducible rfl)); (try simp only [Act.put, List.getElem_toArray, List.getElem_cons_zero, List.getElem_cons_succ, List.setIfInBounds_toArray, List.set_cons_zero, List.set_cons_succ]))
    (refine wpAnyH_take (i := 37) (v := ?_) rfl (by kernel_rfl) (by kernel_rfl) (by kernel_rfl) (fun _ _ _ h => h) (Or.inl ⟨by rfl, ?_⟩) (by assumption) ?_; (case' refine_2 => (intro w hSw; go_simp; try with_reducible rfl)); (try simp only [Act.put, List.getElem_toArray, List.getElem_cons_zero, List.getElem_cons_succ, List.setIfInBounds_toArray, List.set_cons_zero, List.set_cons_succ]))
    (refine wpAnyH_take (i := 38) (v := ?_) rfl (by kernel_rfl) (by kernel_rfl) (by kernel_rfl) (fun _ _ _ h => h) (Or.inl ⟨by rfl, ?_⟩) (by assumption) ?_; (case' refine_2 => (intro w hSw; go_simp; try with_reducible rfl)); (try simp only [Act.put, List.getElem_toArray, List.getElem_cons_zero, List.getElem_cons_succ, List.setIfInBounds_toArray, List.set_cons_zero, List.set_cons_succ]))
    (refine wpAnyH_take (i := 39) rfl (by kernel_rfl) (by kernel_rfl) (by kernel_rfl) (fun _ _ _ h => h) (yieldsIf_load_at (by rfl) _ _ rfl ⟨wd.heap.size, 0, none⟩ rfl D _ (fun _ h => h.2) (by assumption) rfl HID.out) (by assumption) ?_; (try simp only [Act.put, List.getElem_toArray, List.getElem_cons_zero, List.getElem_cons_succ, List.setIfInBounds_toArray, List.set_cons_zero, List.set_cons_succ]))
    (refine wpAnyH_take (i := 40) (v := ?_) rfl (by kernel_rfl) (by kernel_rfl) (by kernel_rfl) (fun _ _ _ h => h) (Or.inl ⟨by rfl, ?_⟩) (by assumption) ?_; (case' refine_2 => (intro w hSw; go_simp; try with_reducible rfl)); (try simp only [Act.put, List.getElem_toArray, List.getElem_cons_zero, List.getElem_cons_succ, List.setIfInBounds_toArray, List.set_cons_zero, List.set_cons_succ]))
    (refine wpAnyH_ready (rs := [41]) (by kernel_rfl) (by simp) (AllReadyH.cons rfl (fun K hK => ?_) AllReadyH.nil); go_simp)
    refine (HP7.out _ (below_step HB.out HW.out)).mono ?_
    rintro e w34 ⟨rfl, hb⟩
    have n_ := Aside0.mk (below_step HW.out hb)
    clear HW hb
    have HW := n_
    clear n_
    (refine Shut.out hK _ _ (And.intro (HA5.out.below HW.out) (HA14.out.below HW.out)) (fun hHeld => ?_); clear hK K; (try simp only [Act.put, List.getElem_toArray, List.getElem_cons_zero, List.getElem_cons_succ, List.setIfInBounds_toArray, List.set_cons_zero, List.set_cons_succ]))
    (refine wpAnyH_take (i := 42) (v := ?_) rfl (by kernel_rfl) (by kernel_rfl) (by kernel_rfl) (fun _ _ _ h => h) (Or.inl ⟨by rfl, ?_⟩) (by assumption) ?_; (case' refine_2 => (intro w hSw; go_simp; try with_reducible rfl)); (try simp only [Act.put, List.getElem_toArray, List.getElem_cons_zero, List.getElem_cons_succ, List.setIfInBounds_toArray, List.set_cons_zero, List.set_cons_succ]))
    (refine wpAnyH_take (i := 43) (v := ?_) rfl (by kernel_rfl) (by kernel_rfl) (by kernel_rfl) (fun _ _ _ h => h) (Or.inl ⟨by rfl, ?_⟩) (by assumption) ?_; (case' refine_2 => (intro w hSw; go_simp; try with_reducible rfl)); (try simp only [Act.put, List.getElem_toArray, List.getElem_cons_zero, List.getElem_cons_succ, List.setIfInBounds_toArray, List.set_cons_zero, List.set_cons_succ]))
    (refine wpAnyH_take (i := 44) (v := ?_) rfl (by kernel_rfl) (by kernel_rfl) (by kernel_rfl) (fun _ _ _ h => h) (Or.inl ⟨by rfl, ?_⟩) (by assumption) ?_; (case' refine_2 => (intro w hSw; go_simp; try with_reducible rfl)); (try simp only [Act.put, List.getElem_toArray, List.getElem_cons_zero, List.getElem_cons_succ, List.setIfInBounds_toArray, List.set_cons_zero, List.set_cons_succ]))
    (refine wpAnyH_ready (rs := [45]) (by kernel_rfl) (by simp) (AllReadyH.cons rfl (fun K hK => ?_) AllReadyH.nil); go_simp)
    refine (live26_c _).mono ?_
    rintro e w35 ⟨rfl, hb⟩
    have n_ := Aside0.mk (below_step HW.out hb)
    clear HW hb
    have HW := n_
    clear n_
    (refine Shut.out hK _ _ (And.intro (HA5.out.below HW.out) (HA14.out.below HW.out)) (fun hHeld => ?_); clear hK K; (try simp only [Act.put, List.getElem_toArray, List.getElem_cons_zero, List.getElem_cons_succ, List.setIfInBounds_toArray, List.set_cons_zero, List.set_cons_succ]))
    (refine wpAnyH_take (i := 46) (v := ?_) rfl (by kernel_rfl) (by kernel_rfl) (by kernel_rfl) (fun _ _ _ h => h) (Or.inl ⟨by rfl, ?_⟩) (by assumption) ?_; (case' refine_2 => (intro w hSw; go_simp; try with_reducible rfl)); (try simp only [Act.put, List.getElem_toArray, List.getElem_cons_zero, List.getElem_cons_succ, List.setIfInBounds_toArray, List.set_cons_zero, List.set_cons_succ]))
    (refine wpAnyH_take (i := 47) (v := ?_) rfl (by kernel_rfl) (by kernel_rfl) (by kernel_rfl) (fun _ _ _ h => h) (Or.inl ⟨by rfl, ?_⟩) (by assumption) ?_; (case' refine_2 => (intro w hSw; go_simp; try with_reducible rfl)); (try simp only [Act.put, List.getElem_toArray, List.getElem_cons_zero, List.getElem_cons_succ, List.setIfInBounds_toArray, List.set_cons_zero, List.set_cons_succ]))
    refine wpAnyH_done (by kernel_rfl) ?_ _
    go_wp2_with (fail)
    go_ret
    exact ⟨rfl, below_step HB.out HW.out⟩
end Go.Proofs.Ytbebkogkeepfoaa.Tree
/- TreeRoots: the law's walk, as the row asks for it. -/
namespace Go.Proofs.Ytbebkogkeepfoaa.Tree
set_option linter.unusedVariables false
open Go.RowKit Go.Proofs.Ytbebkogkeepfoaa.Base Go.Proofs.Ytbebkogkeepfoaa.TlvPlain Go.Proofs.Ytbebkogkeepfoaa.ShaPlain Go.Proofs.Ytbebkogkeepfoaa.Sha Go.Proofs.Ytbebkogkeepfoaa.Com Go.Proofs.Ytbebkogkeepfoaa.Aid Go.Proofs.YtbebkogkeepfoaaW.PrintWords
/-- Sums that came in are sums. -/
theorem lu_of {w : World} {A : Option Addr} {l : List Sm} (hr : Rs w A l) (ok : ∀ x ∈ l, ∀ y ∈ x, (Lit.int .u8 y).wf = true) : Lu l := fun x hx => by
  refine ⟨?_, fun y hy => byte_wf (ok x hx y hy)⟩
  obtain ⟨i, hi, rfl⟩ := List.mem_iff_getElem.1 hx
  obtain ⟨_, _, _, h⟩ := rs_at hr i hi
  exact h
theorem rootsWalk (w : World) (A : Option Addr) (c : Nat) (l : List Sm) (hr : Rs w A l) (hc : l.length ≤ c) (ok : ∀ x ∈ l, ∀ y ∈ x, (Lit.int .u8 y).wf = true) (i : Int) (_ : (Lit.int .i64 i).wf = true)
    (leaf : List Int) (cp : Array Value) (hp : (Kd.arr 32 (Kd.int .u8) (by decide)).K w leaf cp.toList) (okp : ∀ x ∈ leaf, (Lit.int .u8 x).wf = true) :
    Calls Try.prog 11 #[.slice A l.length c, .int .i64 i, .agg cp] w fun e w' => e = .returned (.bool true) ∧ Below w.heap.size w w' := by
  obtain ⟨rfl, hl⟩ := arr_sum hp
  by_cases h : 40 < l.length
  · exact roots_long A l.length c h i leaf hl w
  · exact roots_walk l l.length rfl (by omega) (lu_of hr ok) i leaf hl (fun x hx => byte_wf (okp x hx)) A c hc w hr
end Go.Proofs.Ytbebkogkeepfoaa.Tree
