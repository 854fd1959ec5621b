/- Own and printed texts, laid together. -/
import Derived.Test.YtgdpabedlghiaaaSpPA
import Derived.Test.YtgdpabedlghiaaaSpPE
import Derived.Test.YtgdpabedlghiaaaSpPC
import Derived.Test.YtgdpabedlghiaaaSpPD
import Derived.Test.YtgdpabedlghiaaaSpPB
-- printed for this claim by a program (pall.sh)
namespace Go.Proofs.Ytgdpabedlghiaaa.PZ
open Go.RowKit Go.Proofs.YtgdpabedlghiaaaW.PrintWords Go.Proofs.YtgdpabedlghiaaaW.PrintLast Go.Proofs.YtgdpabedlghiaaaW.PrintMore
attribute [local go_sem] max2_int min2_int max_two min_two max_three min_three max_four min_four   -- for this text's walks alone
set_option linter.unusedVariables false
set_option linter.unusedSimpArgs false

/-! ### hanaperref20_May: function 68 -/
def hanaperref20_May.f (k : Nat) (a0_0 : Int) (a0_1 : ByteArray) (a0_2 : Int) (a0_3 : Int) (l0_4 : List (S40)) : Option (Bool) := (hanaperref20_left.f k a0_0 a0_1 a0_2 a0_3 l0_4 24 8).bind fun t275 => (some (decide (t275 ≥ 0)))
theorem hanaperref20_May.mono : ∀ a0 a1 a2 a3 a4 k, LeO (hanaperref20_May.f k a0 a1 a2 a3 a4) (hanaperref20_May.f (k + 1) a0 a1 a2 a3 a4) := by
  intro a0 a1 a2 a3 a4 k
  unfold hanaperref20_May.f
  repeat' first
      | (with_reducible exact hanaperref20_left.mono _ _ _ _ _ _ _ _)
      | (with_reducible exact LeO.refl _)
      | (with_reducible exact LeO.none _)
      | (with_reducible refine LeO.ite ?_ ?_)
      | (with_reducible refine LeO.bind ?_ (fun _ => ?_))
      | exact hanaperref20_left.mono _ _ _ _ _ _ _ _
      | exact LeO.none _
      | refine LeO.ite ?_ ?_
      | refine LeO.bind ?_ (fun _ => ?_)
set_option maxHeartbeats 8000000 in
set_option maxRecDepth 100000 in
theorem hanaperref20_May.calls (k : Nat) (a0_0 : Int) (a0_1 : ByteArray) (a0_2 : Int) (a0_3 : Int) (A0_4 : Option Addr) (c0_4 : Nat) (l0_4 : List (S40)) (r : Bool) (w : World) (hr0_4 : Kd.C k40 w A0_4 l0_4.length l0_4) (hc0_4 : l0_4.length ≤ c0_4) (h : hanaperref20_May.f k a0_0 a0_1 a0_2 a0_3 l0_4 = some r) :
    Calls Try.prog 68 #[.agg #[.int .i64 a0_0, .string a0_1, .int .i64 a0_2, .int .i64 a0_3, .slice A0_4 l0_4.length c0_4]] w fun e w' => e = .returned (.bool r) ∧ Below w.heap.size w w' := by
  have hu40 := Try.underlying40
  have HR0_4 := Aside0.mk hr0_4
  have HC0_4 := Aside0.mk hc0_4
  clear hr0_4 hc0_4
  have HB := Aside0.mk (Below.refl w.heap.size w)
  have H : ((hanaperref20_left.f k a0_0 a0_1 a0_2 a0_3 l0_4 24 8).bind fun t275 => (some (decide (t275 ≥ 0)))) = some r := h
  clear h
  replace H := Option.bind_eq_some_iff.mp H
  obtain ⟨t275, A20, H⟩ := H
  replace H : (some (decide (t275 ≥ 0))) = some r := H
  have A2 := Aside0.mk A20
  clear A20
  obtain rfl := Option.some.inj H
  go_enter Try.func68, Try.ntmps68
  go_wp2_with (first | ((with_reducible refine gate_dst (N := 1) rfl ?_); refine box_event ?hg (N := 1) ?hd (cs := #[.int .i64 a0_0, .string a0_1, .int .i64 a0_2, .int .i64 a0_3, .slice A0_4 l0_4.length c0_4]) (t := 40) ?hr ?_; (case hd => rfl); (case hg => rfl); (case hr => first | (go_simp; done) | (go_simp; rfl)); intro gb274 hg w3 hbox hb; have n0_ := Aside0.mk (below_step (by repeat (first | (with_reducible first | exact HB.out | apply below_alloc | apply pw_below_drewN | apply below_drew1) | exact HB.out)) hb); have n1_ := Aside0.mk (hbox); have n2_ := Aside0.mk ((by rw [hg]; exact (below_size (by repeat (first | (with_reducible first | exact HB.out | apply below_alloc | apply pw_below_drewN | apply below_drew1) | exact HB.out))) : w.heap.size ≤ gb274)); have n3_ := Aside0.mk ((by rw [hg]; exact (below_size (by repeat (first | (with_reducible first | exact HB.out | apply below_alloc | apply pw_below_drewN | apply below_drew1) | exact HB.out))) : w.heap.size ≤ gb274)); clear HB; have HB := n0_; have BK274 := n1_; have GW274 := n2_; have GE274 := n3_; clear n0_ n1_ n2_ n3_; clear hb hbox hg; have hcz4_0 : w3.cell? ⟨gb274, 0, none⟩ = some (.int .i64 a0_0) := (blk_cell BK274.out 0).trans rfl; have hcz4_1 : w3.cell? ⟨gb274, 1, none⟩ = some (.string a0_1) := (blk_cell BK274.out 1).trans rfl; have hcz4_2 : w3.cell? ⟨gb274, 2, none⟩ = some (.int .i64 a0_2) := (blk_cell BK274.out 2).trans rfl; have hcz4_3 : w3.cell? ⟨gb274, 3, none⟩ = some (.int .i64 a0_3) := (blk_cell BK274.out 3).trans rfl; have hcz4_4 : w3.cell? ⟨gb274, 4, none⟩ = some (.slice A0_4 l0_4.length c0_4) := (blk_cell BK274.out 4).trans rfl; have hfz4_0 := blk_frozen BK274.out 0; have hfz4_1 := blk_frozen BK274.out 1; have hfz4_2 := blk_frozen BK274.out 2; have hfz4_3 := blk_frozen BK274.out 3; have hfz4_4 := blk_frozen BK274.out 4) | ((with_reducible refine gate_callee (f := 110) rfl ?_); refine goesL_ (some 4) rfl rfl Try.func110 (by kernel_rfl) rfl #[.agg #[.int .i64 a0_0, .string a0_1, .int .i64 a0_2, .int .i64 a0_3, .slice A0_4 l0_4.length c0_4], .int .i64 24, .int .i64 8] rfl (by (try simp only [List.map_toArray, List.map_cons, List.map_nil]); first | done | rfl | (simp only [List.length_drop, List.length_take]; rfl)) ?_; (with_reducible refine (hanaperref20_left.calls k a0_0 a0_1 a0_2 a0_3 _ _ l0_4 24 8 t275 _ ?side1 ?side2 A2.out).mono ?_); (case side1 => repeat (first | exact (Kd.C_below HR0_4.out HB.out) | (with_reducible refine Kd.C_alloc ?_ _) | (with_reducible refine Kd.C_drewN ?_ _) | (with_reducible refine Kd.C_drew ?_))); (case side2 => exact HC0_4.out); rintro e w5 ⟨rfl, hb⟩; refine ⟨_, rfl, ?_⟩; have n0_ := Aside0.mk (blk_below (g := gb274) (o := .cells #[.int .i64 a0_0, .string a0_1, .int .i64 a0_2, .int .i64 a0_3, .slice A0_4 l0_4.length c0_4] 40 (0, 0)) (by (with_reducible repeat (first | refine blk_drewN ?_ _ | refine blk_drew ?_ | refine blk_alloc ?_ _)); exact BK274.out) hb); have n1_ := Aside0.mk (below_step (by repeat (first | (with_reducible first | exact HB.out | apply below_alloc | apply pw_below_drewN | apply below_drew1 | refine below_set ?_ GE274.out) | exact HB.out)) hb); clear BK274; clear HB; have BK274 := n0_; have HB := n1_; clear n0_ n1_; (try clear hb); (try clear hb2); (try clear hk); (try clear hi)))
  go_ret
  exact ⟨by first | rfl | (simp [errW_none, errW_some] <;> rfl) | (simp [*, errW_none, errW_some] <;> rfl), by repeat (first | (with_reducible first | exact HB.out | apply below_alloc | apply pw_below_drewN | apply below_drew1 | refine below_set ?_ GE274.out) | exact HB.out)⟩

end Go.Proofs.Ytgdpabedlghiaaa.PZ
/- Which scopes may be: the document's count is the program's. -/
namespace Go.Proofs.Ytgdpabedlghiaaa.Scope
set_option linter.unusedVariables false
set_option linter.unusedSimpArgs false
open Go.RowKit Go.Proofs.YtgdpabedlghiaaaW.PrintWords Go.Proofs.Ytgdpabedlghiaaa.PZ Go.Proofs.Ytgdpabedlghiaaa.Aid
theorem may_eq (x : S40) (deep left : Int) : mayS x deep left = if wrap64 (left - 1) < 0 then (false, wrap64 (left - 1)) else if deep = 0 then (false, wrap64 (left - 1)) else if fieldsB x.f0 x.f1 x.f2 x.f3 = false then (false, wrap64 (left - 1))
      else if (x.f4.length : Int) < leastB x.f0 then (false, wrap64 (left - 1)) else if mostB x.f0 < (x.f4.length : Int) then (false, wrap64 (left - 1))
      else (!(mayAny x.f4 (wrap64 (deep - 1)) (wrap64 (left - 1))).1, (mayAny x.f4 (wrap64 (deep - 1)) (wrap64 (left - 1))).2) := by
  obtain ⟨op, nm, fr, to_, kids⟩ := x
  simp only [mayS]
theorem any_rng (d : Int) : ∀ (ks : List S40) (l : Int), (∀ k ∈ ks, ∀ l, -1 ≤ l → l ≤ 24 → (mayS k d l).1 = true → 0 ≤ (mayS k d l).2 ∧ (mayS k d l).2 + nodes k ≤ l) → -1 ≤ l → l ≤ 24 → (mayAny ks d l).1 = false → (mayAny ks d l).2 + nodesL ks ≤ l ∧ (0 ≤ l → 0 ≤ (mayAny ks d l).2)
  | [], l, _, _, _, _ => by simp [mayAny, nodesL]
  | k :: ks, l, ih, h0, h1, h => by
    rw [mayAny] at h ⊢
    by_cases c : (mayS k d l).1 = false
    · rw [if_pos c] at h
      exact absurd h (by simp)
    · rw [if_neg c] at h ⊢
      have c' : (mayS k d l).1 = true := by simpa using c
      obtain ⟨a, b⟩ := ih k (List.mem_cons_self) l h0 h1 c'
      have := any_rng d ks _ (fun k hk => ih k (List.mem_cons_of_mem _ hk)) (by omega) (by omega) h
      rw [nodesL]
      exact ⟨by have := this.1; omega, fun _ => this.2 a⟩
theorem may_rng : ∀ (n : Nat) (x : S40), SizeOf.sizeOf x < n → ∀ d l, -1 ≤ l → l ≤ 24 → (mayS x d l).1 = true → 0 ≤ (mayS x d l).2 ∧ (mayS x d l).2 + nodes x ≤ l := by
  intro n
  induction n with
  | zero => intro x h; exact absurd h (by omega)
  | succ n ih =>
    intro x hn d l h0 h1 h
    have hw : wrap64 (l - 1) = l - 1 := w64 (by omega) (by omega)
    rw [may_eq, hw] at h ⊢
    by_cases c1 : l - 1 < 0
    · rw [if_pos c1] at h; exact absurd h (by simp)
    · rw [if_neg c1] at h ⊢
      by_cases c2 : d = 0
      · rw [if_pos c2] at h; exact absurd h (by simp)
      · rw [if_neg c2] at h ⊢
        by_cases c3 : fieldsB x.f0 x.f1 x.f2 x.f3 = false
        · rw [if_pos c3] at h; exact absurd h (by simp)
        · rw [if_neg c3] at h ⊢
          by_cases c4 : (x.f4.length : Int) < leastB x.f0
          · rw [if_pos c4] at h; exact absurd h (by simp)
          · rw [if_neg c4] at h ⊢
            by_cases c5 : mostB x.f0 < (x.f4.length : Int)
            · rw [if_pos c5] at h; exact absurd h (by simp)
            · rw [if_neg c5] at h ⊢
              have h' : (mayAny x.f4 (wrap64 (d - 1)) (l - 1)).1 = false := by simpa using h
              have := any_rng (wrap64 (d - 1)) x.f4 (l - 1) (fun k hk l q0 q1 q2 => ih k (by have := kid_lt hk; omega) _ l q0 q1 q2) (by omega) (by omega) h'
              exact ⟨this.2 (by omega), by rw [nodes_eq]; have := this.1; show (mayAny x.f4 (wrap64 (d - 1)) (l - 1)).2 + _ ≤ l; omega⟩
/-- What the document's count comes to. -/
def leftV (x : S40) (m deep : Int) : Int := if (mayS x deep m).1 = true then (mayS x deep m).2 else -1
theorem leftV_of {x : S40} {m deep : Int} (hw : wrap64 (m - 1) = m - 1) : leftV x m deep = if m - 1 < 0 ∨ deep = 0 ∨ fieldsB x.f0 x.f1 x.f2 x.f3 = false ∨ (x.f4.length : Int) < leastB x.f0 ∨ mostB x.f0 < (x.f4.length : Int) then -1 else if (mayAny x.f4 (wrap64 (deep - 1)) (m - 1)).1 = true then -1 else (mayAny x.f4 (wrap64 (deep - 1)) (m - 1)).2 := by
  unfold leftV
  rw [may_eq, hw]
  by_cases c1 : m - 1 < 0
  · rw [if_pos (Or.inl c1), if_pos c1]; rfl
  · rw [if_neg c1]
    by_cases c2 : deep = 0
    · rw [if_pos (Or.inr (Or.inl c2)), if_pos c2]; rfl
    · rw [if_neg c2]
      by_cases c3 : fieldsB x.f0 x.f1 x.f2 x.f3 = false
      · rw [if_pos (Or.inr (Or.inr (Or.inl c3))), if_pos c3]; rfl
      · rw [if_neg c3]
        by_cases c4 : (x.f4.length : Int) < leastB x.f0
        · rw [if_pos (Or.inr (Or.inr (Or.inr (Or.inl c4)))), if_pos c4]; rfl
        · rw [if_neg c4]
          by_cases c5 : mostB x.f0 < (x.f4.length : Int)
          · rw [if_pos (Or.inr (Or.inr (Or.inr (Or.inr c5)))), if_pos c5]; rfl
          · have hn : ¬ (m - 1 < 0 ∨ deep = 0 ∨ fieldsB x.f0 x.f1 x.f2 x.f3 = false ∨ (x.f4.length : Int) < leastB x.f0 ∨ mostB x.f0 < (x.f4.length : Int)) := by rintro (h | h | h | h | h); exact c1 h; exact c2 h; exact c3 h; exact c4 h; exact c5 h
            rw [if_neg c5, if_neg hn]
            cases hq : (mayAny x.f4 (wrap64 (deep - 1)) (m - 1)).1 <;> simp
theorem leftV_rng (x : S40) (m deep : Int) (h0 : -1 ≤ m) (h1 : m ≤ 24) : -1 ≤ leftV x m deep ∧ leftV x m deep ≤ 24 ∧ (0 ≤ leftV x m deep → (mayS x deep m).1 = true) := by
  unfold leftV
  by_cases c : (mayS x deep m).1 = true
  · rw [if_pos c]
    have := may_rng _ x (Nat.lt_succ_self _) deep m h0 h1 c
    exact ⟨by omega, by omega, fun _ => c⟩
  · rw [if_neg c]
    exact ⟨by omega, by omega, fun h => absurd h (by decide)⟩
def loopV (ks : List S40) (d m : Int) : Int := if m < 0 then m else if (mayAny ks d m).1 = true then -1 else (mayAny ks d m).2
theorem left_loop (op : Int) (nm : ByteArray) (fr to_ : Int) (kids : List S40) (deep : Int) (hl : kids.length ≤ 60)
    (ih : ∀ k ∈ kids, ∀ m, -1 ≤ m → m ≤ 24 → Ev (fun n => hanaperref20_left.f n k.f0 k.f1 k.f2 k.f3 k.f4 m (wrap64 (deep - 1))) (leftV k m (wrap64 (deep - 1)))) :
    ∀ (j i : Nat) (m : Int), i + j = kids.length → -1 ≤ m → m ≤ 24 → Ev (fun n => hanaperref20_left.l0 n m deep (i : Int) op nm fr to_ kids) (loopV (kids.drop i) (wrap64 (deep - 1)) m) := by
  intro j
  induction j with
  | zero =>
    intro i m hi h0 h1
    refine Ev.step (fun k => by simp only [hanaperref20_left.l0]; rfl) (neg (by omega) (now ?_))
    rw [List.drop_eq_nil_of_le (by omega), loopV]
    by_cases c : m < 0
    · rw [if_pos c]
    · rw [if_neg c]; simp [mayAny]
  | succ j ih2 =>
    intro i m hi h0 h1
    by_cases hm : m ≥ 0
    · have hlt : i < kids.length := by omega
      refine Ev.step (fun k => by simp only [hanaperref20_left.l0]; rfl) (pos (by omega) (pos hm (pos (by omega) ?_)))
      rw [rd_at kids i hlt]
      refine evBind (ih kids[i] (List.getElem_mem hlt) m h0 h1) ?_
      rw [show wrap64 ((i : Int) + 1) = ((i + 1 : Nat) : Int) from inc hlt (by omega)]
      have hr := leftV_rng kids[i] m (wrap64 (deep - 1)) h0 h1
      have h2 := ih2 (i + 1) (leftV kids[i] m (wrap64 (deep - 1))) (by omega) hr.1 hr.2.1
      have he : loopV (kids.drop i) (wrap64 (deep - 1)) m = loopV (kids.drop (i + 1)) (wrap64 (deep - 1)) (leftV kids[i] m (wrap64 (deep - 1))) := by
        rw [List.drop_eq_getElem_cons hlt, loopV, if_neg (by omega), mayAny, loopV]
        by_cases c : (mayS kids[i] (wrap64 (deep - 1)) m).1 = true
        · have hv : leftV kids[i] m (wrap64 (deep - 1)) = (mayS kids[i] (wrap64 (deep - 1)) m).2 := by unfold leftV; rw [if_pos c]
          have := may_rng _ kids[i] (Nat.lt_succ_self _) (wrap64 (deep - 1)) m h0 h1 c
          have cf : ¬ ((mayS kids[i] (wrap64 (deep - 1)) m).1 = false) := by rw [c]; simp
          rw [hv, if_neg cf, if_neg (by omega : ¬ (mayS kids[i] (wrap64 (deep - 1)) m).2 < 0)]
        · have hv : leftV kids[i] m (wrap64 (deep - 1)) = -1 := by unfold leftV; rw [if_neg c]
          have cf : (mayS kids[i] (wrap64 (deep - 1)) m).1 = false := by simpa using c
          rw [hv, if_pos cf]
          simp
      rw [he]
      exact h2
    · refine Ev.step (fun k => by simp only [hanaperref20_left.l0]; rfl) (pos (by omega) (neg hm (now ?_)))
      rw [loopV, if_pos (by omega)]
theorem j2_many (k : Nat) (m d op : Int) (nm : ByteArray) (fr to_ : Int) (kids : List S40) (h : op = 6 ∨ op = 7) : hanaperref20_left.j2 (k + 1) m d op nm fr to_ kids = hanaperref20_left.j3 k m d (decide ((kids.length : Int) < 2) || decide ((kids.length : Int) > m)) op nm fr to_ kids := by
  rcases h with rfl | rfl <;> by_cases c : (kids.length : Int) < 2 <;> simp [hanaperref20_left.j2, hanaperref20_many.f, c]
theorem j2_not (k : Nat) (m d op : Int) (nm : ByteArray) (fr to_ : Int) (kids : List S40) (h : op = 8) : hanaperref20_left.j2 (k + 1) m d op nm fr to_ kids = hanaperref20_left.j3 k m d (!decide ((kids.length : Int) = 1) || decide ((kids.length : Int) > m)) op nm fr to_ kids := by
  subst h
  by_cases c : (kids.length : Int) = 1 <;> simp [hanaperref20_left.j2, hanaperref20_many.f, c]
theorem j2_else (k : Nat) (m d op : Int) (nm : ByteArray) (fr to_ : Int) (kids : List S40) (h6 : op ≠ 6) (h7 : op ≠ 7) (h8 : op ≠ 8) : hanaperref20_left.j2 (k + 1) m d op nm fr to_ kids = hanaperref20_left.j3 k m d (decide ((kids.length : Int) > 0) || decide ((kids.length : Int) > m)) op nm fr to_ kids := by
  by_cases c : 0 < kids.length <;> simp [hanaperref20_left.j2, hanaperref20_many.f, h6, h7, h8, c]
theorem left_j3 (m d op : Int) (nm : ByteArray) (fr to_ : Int) (kids : List S40) (f : Bool) (w : Int) (hw : f = false → Ev (fun n => hanaperref20_left.l0 n m d 0 op nm fr to_ kids) w) (h1 : f = true → w = -1) : Ev (fun n => hanaperref20_left.j3 n m d f op nm fr to_ kids) w := by
  refine Ev.step (fun k => by simp only [hanaperref20_left.j3]; rfl) ?_
  cases f
  · exact neg (by decide) (hw rfl)
  · rw [h1 rfl]
    exact pos rfl (now rfl)
/-- Has a scope as many kids as its kind has? -/
def kidsOk (op : Int) (n : Nat) (m : Int) : Bool := decide (leastB op ≤ (n : Int)) && (decide ((n : Int) ≤ mostB op) && decide ((n : Int) ≤ m))
theorem left_j2 (m d op : Int) (nm : ByteArray) (fr to_ : Int) (kids : List S40) (hm : m ≤ 24) (w : Int) (hw : kidsOk op kids.length m = true → Ev (fun n => hanaperref20_left.l0 n m d 0 op nm fr to_ kids) w) (h1 : kidsOk op kids.length m = false → w = -1) : Ev (fun n => hanaperref20_left.j2 n m d op nm fr to_ kids) w := by
  by_cases h67 : op = 6 ∨ op = 7
  · refine Ev.step (fun k => j2_many k m d op nm fr to_ kids h67) (left_j3 _ _ _ _ _ _ _ _ _ (fun h => hw ?_) (fun h => h1 ?_))
    · have e1 : leastB op = 2 := by rcases h67 with rfl | rfl <;> decide
      have e2 : mostB op = 24 := by rcases h67 with rfl | rfl <;> decide
      simp only [Bool.or_eq_false_iff, decide_eq_false_iff_not] at h
      simp only [kidsOk, e1, e2, Bool.and_eq_true, decide_eq_true_eq]
      omega
    · have e1 : leastB op = 2 := by rcases h67 with rfl | rfl <;> decide
      have e2 : mostB op = 24 := by rcases h67 with rfl | rfl <;> decide
      simp only [Bool.or_eq_true, decide_eq_true_eq] at h
      simp only [kidsOk, e1, e2, Bool.and_eq_false_iff, decide_eq_false_iff_not]
      omega
  · by_cases h8 : op = 8
    · refine Ev.step (fun k => j2_not k m d op nm fr to_ kids h8) (left_j3 _ _ _ _ _ _ _ _ _ (fun h => hw ?_) (fun h => h1 ?_))
      · have e1 : leastB op = 1 := by rw [h8]; decide
        have e2 : mostB op = 1 := by rw [h8]; decide
        simp only [Bool.or_eq_false_iff, Bool.not_eq_false', decide_eq_true_eq, decide_eq_false_iff_not] at h
        simp only [kidsOk, e1, e2, Bool.and_eq_true, decide_eq_true_eq]
        omega
      · have e1 : leastB op = 1 := by rw [h8]; decide
        have e2 : mostB op = 1 := by rw [h8]; decide
        simp only [Bool.or_eq_true, Bool.not_eq_true', decide_eq_false_iff_not, decide_eq_true_eq] at h
        simp only [kidsOk, e1, e2, Bool.and_eq_false_iff, decide_eq_false_iff_not]
        omega
    · have h6 : op ≠ 6 := fun h => h67 (Or.inl h)
      have h7 : op ≠ 7 := fun h => h67 (Or.inr h)
      have e1 : leastB op = 0 := by simp [leastB, h6, h7, h8]
      have e2 : mostB op = 0 := by simp [mostB, h6, h7, h8]
      refine Ev.step (fun k => j2_else k m d op nm fr to_ kids h6 h7 h8) (left_j3 _ _ _ _ _ _ _ _ _ (fun h => hw ?_) (fun h => h1 ?_))
      · simp only [Bool.or_eq_false_iff, decide_eq_false_iff_not] at h
        simp only [kidsOk, e1, e2, Bool.and_eq_true, decide_eq_true_eq]
        omega
      · simp only [Bool.or_eq_true, decide_eq_true_eq] at h
        simp only [kidsOk, e1, e2, Bool.and_eq_false_iff, decide_eq_false_iff_not]
        omega
/-- The times, and no others. -/
def timesOk (op fr to_ : Int) : Bool := if op = 5 then decide (fr ≥ 0) && (decide (fr ≤ to_) && decide (to_ ≤ 1099511627776)) else decide (fr = 0) && decide (to_ = 0)
theorem left_j1 (m d op : Int) (nm : ByteArray) (fr to_ : Int) (kids : List S40) (f : Bool) (w : Int) (hw : f = false → timesOk op fr to_ = true → Ev (fun n => hanaperref20_left.j2 n m d op nm fr to_ kids) w) (h1 : f = true ∨ timesOk op fr to_ = false → w = -1) : Ev (fun n => hanaperref20_left.j1 n m d f op nm fr to_ kids) w := by
  refine Ev.step (fun k => by simp only [hanaperref20_left.j1]; rfl) ?_
  cases f
  · refine neg (by decide) ?_
    by_cases h5 : op = 5
    · refine pos h5 ?_
      by_cases c1 : fr < 0
      · rw [h1 (Or.inr (by simp [timesOk, h5]; omega))]; exact pos c1 (now rfl)
      · refine neg c1 ?_
        by_cases c2 : fr > to_
        · rw [h1 (Or.inr (by simp [timesOk, h5]; omega))]; exact pos c2 (now rfl)
        · refine neg c2 ?_
          by_cases c3 : to_ > 1099511627776
          · rw [h1 (Or.inr (by simp [timesOk, h5]; omega))]; exact pos c3 (now rfl)
          · exact neg c3 (hw rfl (by simp [timesOk, h5]; omega))
    · refine neg h5 ?_
      by_cases c1 : fr = 0
      · refine pos c1 ?_
        by_cases c2 : to_ = 0
        · exact pos c2 (hw rfl (by simp [timesOk, h5, c1, c2]))
        · rw [h1 (Or.inr (by simp [timesOk, h5, c2]))]; exact neg c2 (now rfl)
      · rw [h1 (Or.inr (by simp [timesOk, h5, c1]))]; exact neg c1 (now rfl)
  · rw [h1 (Or.inl rfl)]
    exact pos rfl (now rfl)
theorem nameB_empty {nm : ByteArray} (h : nm.toList = []) : Name.nameB nm = false := by
  have h2 : nm.size = 0 := by
    have h3 := data_length nm
    rw [← ByteArray.toList_eq, h] at h3
    exact h3.symm
  simp [Name.nameB, h2]
/-- What the document asks of a name. -/
def badName (op : Int) (nm : ByteArray) : Bool := (namedB op != (nm.toList != [])) || (namedB op && !Name.nameB nm)
theorem fields_doc {op : Int} (h1 : ¬ op < 1) (h8 : ¬ op > 8) (nm : ByteArray) (fr to_ : Int) : fieldsB op nm fr to_ = (!badName op nm && timesOk op fr to_) := by
  unfold fieldsB badName timesOk
  rw [if_neg (by omega : ¬ (op < 1 ∨ op > 8))]
  by_cases he : nm.toList = []
  · have hn := nameB_empty he
    cases hb : namedB op <;> simp [he, hn]
  · cases hb : namedB op <;> cases hn : Name.nameB nm <;> simp [he]
theorem left_j0 (m d op : Int) (nm : ByteArray) (hs : nm.size ≤ 100) (fr to_ : Int) (kids : List S40) (w : Int)
    (hw : badName op nm = false → timesOk op fr to_ = true → Ev (fun n => hanaperref20_left.j2 n (wrap64 (m - 1)) d op nm fr to_ kids) w) (h1 : badName op nm = true ∨ timesOk op fr to_ = false → w = -1) : Ev (fun n => hanaperref20_left.j0 n m d false op nm fr to_ kids) w := by
  refine Ev.step (fun k => by simp only [hanaperref20_left.j0]; rfl) (neg (by decide) (bindSome (named_v2 op) ?_))
  by_cases c : (namedB op != (nm.toList != [])) = true
  · exact pos c (left_j1 _ _ _ _ _ _ _ _ _ (fun h => absurd h (by decide)) (fun _ => h1 (Or.inl (by simp only [badName, c, Bool.true_or]))))
  · refine neg c (bindSome (named_v2 op) ?_)
    have c' : (namedB op != (nm.toList != [])) = false := by simpa using c
    by_cases hb : namedB op = true
    · refine pos hb (evBind (Name.name_ev nm (by omega)) (left_j1 _ _ _ _ _ _ _ _ _ (fun h ht => hw ?_ ht) (fun h => h1 ?_)))
      · unfold badName; rw [c', hb]; exact h
      · exact h.imp (fun h => by unfold badName; rw [c', hb]; exact h) id
    · have hb' : namedB op = false := by simpa using hb
      refine neg hb (left_j1 _ _ _ _ _ _ _ _ _ (fun h ht => hw ?_ ht) (fun h => h1 ?_))
      · unfold badName; rw [c', hb']; rfl
      · exact h.imp (fun h => absurd h (by decide)) id
theorem left_bad (m d op : Int) (nm : ByteArray) (fr to_ : Int) (kids : List S40) : Ev (fun n => hanaperref20_left.j0 n m d true op nm fr to_ kids) (-1) :=
  Ev.step (fun k => by simp only [hanaperref20_left.j0]; rfl) (pos (show true = true from rfl) (now rfl))
theorem left_ev : ∀ (n : Nat) (x : S40), SizeOf.sizeOf x < n → short x → nodes x ≤ 60 → ∀ m deep, -1 ≤ m → m ≤ 24 → 0 ≤ deep → deep ≤ 8 → Ev (fun k => hanaperref20_left.f k x.f0 x.f1 x.f2 x.f3 x.f4 m deep) (leftV x m deep) := by
  intro n
  induction n with
  | zero => intro x h; exact absurd h (by omega)
  | succ n ih =>
    intro x hn hs hN m deep h0 h1 d0 d1
    have hw : wrap64 (m - 1) = m - 1 := w64 (by omega) (by omega)
    have hs2 := (short_eq x).1 hs
    have hN2 : nodesL x.f4 < 60 := by rw [nodes_eq] at hN; omega
    have hlen := len_nodes x.f4
    by_cases c1 : m < 1
    · have hv : leftV x m deep = -1 := by rw [leftV_of hw, if_pos (Or.inl (by omega))]
      rw [hv]
      exact Ev.step (fun k => by simp only [hanaperref20_left.f]; rfl) (pos c1 (left_bad _ _ _ _ _ _ _))
    · by_cases c2 : deep < 1
      · have hv : leftV x m deep = -1 := by rw [leftV_of hw, if_pos (Or.inr (Or.inl (by omega)))]
        rw [hv]
        exact Ev.step (fun k => by simp only [hanaperref20_left.f]; rfl) (neg c1 (pos c2 (left_bad _ _ _ _ _ _ _)))
      · by_cases c3 : x.f0 < 1
        · have hf : fieldsB x.f0 x.f1 x.f2 x.f3 = false := by unfold fieldsB; rw [if_pos (Or.inl c3)]
          have hv : leftV x m deep = -1 := by rw [leftV_of hw, if_pos (Or.inr (Or.inr (Or.inl hf)))]
          rw [hv]
          exact Ev.step (fun k => by simp only [hanaperref20_left.f]; rfl) (neg c1 (neg c2 (pos c3 (left_bad _ _ _ _ _ _ _))))
        · by_cases c4 : x.f0 > 8
          · have hf : fieldsB x.f0 x.f1 x.f2 x.f3 = false := by unfold fieldsB; rw [if_pos (Or.inr c4)]
            have hv : leftV x m deep = -1 := by rw [leftV_of hw, if_pos (Or.inr (Or.inr (Or.inl hf)))]
            rw [hv]
            refine Ev.step (fun k => by simp only [hanaperref20_left.f]; rfl) (neg c1 (neg c2 (neg c3 ?_)))
            rw [decide_eq_true c4]
            exact left_bad _ _ _ _ _ _ _
          · refine Ev.step (fun k => by simp only [hanaperref20_left.f]; rfl) (neg c1 (neg c2 (neg c3 ?_)))
            rw [decide_eq_false c4]
            have hfd := fields_doc c3 c4 x.f1 x.f2 x.f3
            refine left_j0 m deep x.f0 x.f1 hs2.1 x.f2 x.f3 x.f4 _ (fun hb ht => ?_) (fun hbt => ?_)
            · have hf : ¬ (fieldsB x.f0 x.f1 x.f2 x.f3 = false) := by rw [hfd, hb, ht]; decide
              rw [hw]
              refine left_j2 (m - 1) deep x.f0 x.f1 x.f2 x.f3 x.f4 (by omega) _ (fun hk => ?_) (fun hk => ?_)
              · simp only [kidsOk, Bool.and_eq_true, decide_eq_true_eq] at hk
                have hl := left_loop x.f0 x.f1 x.f2 x.f3 x.f4 deep (by omega) (fun k hk m q0 q1 => ih k (by have := kid_lt hk; omega) (shortL_mem hs2.2 hk) (by have := node_le hk; omega) m (wrap64 (deep - 1)) q0 q1 (by rw [w64 (by omega) (by omega)]; omega) (by rw [w64 (by omega) (by omega)]; omega)) x.f4.length 0 (m - 1) (by omega) (by omega) (by omega)
                have he : leftV x m deep = loopV (x.f4.drop 0) (wrap64 (deep - 1)) (m - 1) := by
                  have z1 : ¬ (m - 1 < 0) := by omega
                  have hn : ¬ (m - 1 < 0 ∨ deep = 0 ∨ fieldsB x.f0 x.f1 x.f2 x.f3 = false ∨ (x.f4.length : Int) < leastB x.f0 ∨ mostB x.f0 < (x.f4.length : Int)) := by rintro (h | h | h | h | h); omega; omega; exact hf h; omega; omega
                  rw [leftV_of hw, if_neg hn, List.drop_zero, loopV, if_neg z1]
                rw [he]
                exact hl
              · rw [leftV_of hw]
                simp only [kidsOk, Bool.and_eq_false_iff, decide_eq_false_iff_not] at hk
                by_cases q1 : (x.f4.length : Int) < leastB x.f0
                · rw [if_pos (Or.inr (Or.inr (Or.inr (Or.inl q1))))]
                · by_cases q2 : mostB x.f0 < (x.f4.length : Int)
                  · rw [if_pos (Or.inr (Or.inr (Or.inr (Or.inr q2))))]
                  · have hn : ¬ (m - 1 < 0 ∨ deep = 0 ∨ fieldsB x.f0 x.f1 x.f2 x.f3 = false ∨ (x.f4.length : Int) < leastB x.f0 ∨ mostB x.f0 < (x.f4.length : Int)) := by rintro (h | h | h | h | h); omega; omega; exact hf h; omega; omega
                    rw [if_neg hn]
                    have q3 : ¬ (x.f4.length : Int) ≤ m - 1 := by omega
                    cases hq : (mayAny x.f4 (wrap64 (deep - 1)) (m - 1)).1
                    · have := any_rng (wrap64 (deep - 1)) x.f4 (m - 1) (fun k hk l r0 r1 r2 => may_rng _ k (Nat.lt_succ_self _) _ l r0 r1 r2) (by omega) (by omega) hq
                      have h3 := this.2 (by omega)
                      omega
                    · rfl
            · have hf : fieldsB x.f0 x.f1 x.f2 x.f3 = false := by
                rw [hfd]
                rcases hbt with h | h
                · rw [h]; rfl
                · rw [h, Bool.and_false]
              rw [leftV_of hw, if_pos (Or.inr (Or.inr (Or.inl hf)))]
/-- The document's May is the program's. -/
theorem May_ev (x : S40) (hs : short x) (hN : nodes x ≤ 60) : Ev (fun k => hanaperref20_May.f k x.f0 x.f1 x.f2 x.f3 x.f4) (mayB x) := by
  refine evBind (left_ev _ x (Nat.lt_succ_self _) hs hN 24 8 (by decide) (by decide) (by decide) (by decide)) (now ?_)
  have h := leftV_rng x 24 8 (by decide) (by decide)
  unfold mayB
  cases hq : (mayS x 8 24).1
  · exact decide_eq_false (fun h2 => by rw [h.2.2 h2] at hq; exact absurd hq (by decide))
  · have := may_rng _ x (Nat.lt_succ_self _) 8 24 (by decide) (by decide) hq
    refine decide_eq_true ?_
    unfold leftV
    rw [if_pos hq]
    exact this.1
end Go.Proofs.Ytgdpabedlghiaaa.Scope
-- printed for this claim by a program (pall.sh)
namespace Go.Proofs.Ytgdpabedlghiaaa.PZ
open Go.RowKit Go.Proofs.YtgdpabedlghiaaaW.PrintWords Go.Proofs.YtgdpabedlghiaaaW.PrintLast Go.Proofs.YtgdpabedlghiaaaW.PrintMore
attribute [local go_sem] max2_int min2_int max_two min_two max_three min_three max_four min_four   -- for this text's walks alone
set_option linter.unusedVariables false
set_option linter.unusedSimpArgs false

/-! ### hanaperref20_bytes: function 69 -/
mutual
def hanaperref20_bytes.j0 : Nat → List Int → Int → ByteArray → Int → Int → List (S40) → Option (List Int)
  | 0, _, _, _, _, _, _ => none
  | k + 1, x3, x277000, x277001, x277002, x277003, x277004 => if x277000 = 5 then ((hanaperref01_Int.f k x277002).bind fun t287 => (if x3.length + t287.length < 140737488355328 then ((some (x3 ++ t287 : List Int)).bind fun y290 => ((hanaperref01_Int.f k x277003).bind fun t293 => (if y290.length + t293.length < 140737488355328 then (hanaperref20_bytes.j1 k (y290 ++ t293) x277000 x277001 x277002 x277003 x277004) else (none)))) else (none))) else (hanaperref20_bytes.j1 k x3 x277000 x277001 x277002 x277003 x277004)
def hanaperref20_bytes.j1 : Nat → List Int → Int → ByteArray → Int → Int → List (S40) → Option (List Int)
  | 0, _, _, _, _, _, _ => none
  | k + 1, x3, x277000, x277001, x277002, x277003, x277004 => (hanaperref20_many.f x277000).bind fun t299 => (if t299 = true then ((hanaperref01_Int.f k (x277004.length : Int)).bind fun t300 => (if x3.length + t300.length < 140737488355328 then (hanaperref20_bytes.j2 k (x3 ++ t300) x277000 x277001 x277002 x277003 x277004) else (none))) else (hanaperref20_bytes.j2 k x3 x277000 x277001 x277002 x277003 x277004))
def hanaperref20_bytes.j2 : Nat → List Int → Int → ByteArray → Int → Int → List (S40) → Option (List Int)
  | 0, _, _, _, _, _, _ => none
  | k + 1, x3, x277000, x277001, x277002, x277003, x277004 => hanaperref20_bytes.l0 k x3 0 x277000 x277001 x277002 x277003 x277004
def hanaperref20_bytes.l0 : Nat → List Int → Int → Int → ByteArray → Int → Int → List (S40) → Option (List Int)
  | 0, _, _, _, _, _, _, _ => none
  | k + 1, x3, x4, x277000, x277001, x277002, x277003, x277004 => if x4 < (x277004.length : Int) then (if 0 ≤ x4 then ((hanaperref20_bytes.f k ((rd_T40 x277004 x4).f0) ((rd_T40 x277004 x4).f1) ((rd_T40 x277004 x4).f2) ((rd_T40 x277004 x4).f3) ((rd_T40 x277004 x4).f4)).bind fun t307 => (if x3.length + t307.length < 140737488355328 then (hanaperref20_bytes.l0 k (x3 ++ t307) (wrap64 (x4 + 1)) x277000 x277001 x277002 x277003 x277004) else (none))) else (none)) else (some x3)
def hanaperref20_bytes.f : Nat → Int → ByteArray → Int → Int → List (S40) → Option (List Int)
  | 0, _, _, _, _, _ => none
  | k + 1, a0_0, a0_1, a0_2, a0_3, l0_4 => (some (([(a0_0) % 256] : List Int) : List Int)).bind fun y277 => ((hanaperref20_named.f a0_0).bind fun t280 => (if t280 = true then ((hanaperref01_TextS.f a0_1).bind fun t281 => (if y277.length + t281.length < 140737488355328 then (hanaperref20_bytes.j0 k (y277 ++ t281) a0_0 a0_1 a0_2 a0_3 l0_4) else (none))) else (hanaperref20_bytes.j0 k y277 a0_0 a0_1 a0_2 a0_3 l0_4)))
end
theorem hanaperref20_bytes.mono_l : ∀ k, (∀ y0 y1 y2 y3 y4, LeO (hanaperref20_bytes.f k y0 y1 y2 y3 y4) (hanaperref20_bytes.f (k + 1) y0 y1 y2 y3 y4)) ∧ (∀ y0 y1 y2 y3 y4 y5, LeO (hanaperref20_bytes.j0 k y0 y1 y2 y3 y4 y5) (hanaperref20_bytes.j0 (k + 1) y0 y1 y2 y3 y4 y5)) ∧ (∀ y0 y1 y2 y3 y4 y5, LeO (hanaperref20_bytes.j1 k y0 y1 y2 y3 y4 y5) (hanaperref20_bytes.j1 (k + 1) y0 y1 y2 y3 y4 y5)) ∧ (∀ y0 y1 y2 y3 y4 y5, LeO (hanaperref20_bytes.j2 k y0 y1 y2 y3 y4 y5) (hanaperref20_bytes.j2 (k + 1) y0 y1 y2 y3 y4 y5)) ∧ (∀ y0 y1 y2 y3 y4 y5 y6, LeO (hanaperref20_bytes.l0 k y0 y1 y2 y3 y4 y5 y6) (hanaperref20_bytes.l0 (k + 1) y0 y1 y2 y3 y4 y5 y6))
  | 0 => ⟨fun _ _ _ _ _ r h => by simp [hanaperref20_bytes.f] at h, fun _ _ _ _ _ _ r h => by simp [hanaperref20_bytes.j0] at h, fun _ _ _ _ _ _ r h => by simp [hanaperref20_bytes.j1] at h, fun _ _ _ _ _ _ r h => by simp [hanaperref20_bytes.j2] at h, fun _ _ _ _ _ _ _ r h => by simp [hanaperref20_bytes.l0] at h⟩
  | k + 1 => by
    obtain ⟨ih0, ih1, ih2, ih3, ih4⟩ := hanaperref20_bytes.mono_l k
    refine ⟨?_, ?_, ?_, ?_, ?_⟩
    · intro y0 y1 y2 y3 y4
      unfold hanaperref20_bytes.f
      repeat' first
      | (with_reducible exact ih0 _ _ _ _ _)
      | (with_reducible exact ih1 _ _ _ _ _ _)
      | (with_reducible exact ih2 _ _ _ _ _ _)
      | (with_reducible exact ih3 _ _ _ _ _ _)
      | (with_reducible exact ih4 _ _ _ _ _ _ _)
      | (with_reducible exact hanaperref01_Int.mono _ _)
      | (with_reducible exact hanaperref01_Text.mono _ _)
      | (with_reducible exact LeO.refl _)
      | (with_reducible exact LeO.none _)
      | (with_reducible refine LeO.ite ?_ ?_)
      | (with_reducible refine LeO.bind ?_ (fun _ => ?_))
      | exact ih0 _ _ _ _ _
      | exact ih1 _ _ _ _ _ _
      | exact ih2 _ _ _ _ _ _
      | exact ih3 _ _ _ _ _ _
      | exact ih4 _ _ _ _ _ _ _
      | exact hanaperref01_Int.mono _ _
      | exact hanaperref01_Text.mono _ _
      | exact LeO.none _
      | refine LeO.ite ?_ ?_
      | refine LeO.bind ?_ (fun _ => ?_)
    · intro y0 y1 y2 y3 y4 y5
      unfold hanaperref20_bytes.j0
      repeat' first
      | (with_reducible exact ih0 _ _ _ _ _)
      | (with_reducible exact ih1 _ _ _ _ _ _)
      | (with_reducible exact ih2 _ _ _ _ _ _)
      | (with_reducible exact ih3 _ _ _ _ _ _)
      | (with_reducible exact ih4 _ _ _ _ _ _ _)
      | (with_reducible exact hanaperref01_Int.mono _ _)
      | (with_reducible exact hanaperref01_Text.mono _ _)
      | (with_reducible exact LeO.refl _)
      | (with_reducible exact LeO.none _)
      | (with_reducible refine LeO.ite ?_ ?_)
      | (with_reducible refine LeO.bind ?_ (fun _ => ?_))
      | exact ih0 _ _ _ _ _
      | exact ih1 _ _ _ _ _ _
      | exact ih2 _ _ _ _ _ _
      | exact ih3 _ _ _ _ _ _
      | exact ih4 _ _ _ _ _ _ _
      | exact hanaperref01_Int.mono _ _
      | exact hanaperref01_Text.mono _ _
      | exact LeO.none _
      | refine LeO.ite ?_ ?_
      | refine LeO.bind ?_ (fun _ => ?_)
    · intro y0 y1 y2 y3 y4 y5
      unfold hanaperref20_bytes.j1
      repeat' first
      | (with_reducible exact ih0 _ _ _ _ _)
      | (with_reducible exact ih1 _ _ _ _ _ _)
      | (with_reducible exact ih2 _ _ _ _ _ _)
      | (with_reducible exact ih3 _ _ _ _ _ _)
      | (with_reducible exact ih4 _ _ _ _ _ _ _)
      | (with_reducible exact hanaperref01_Int.mono _ _)
      | (with_reducible exact hanaperref01_Text.mono _ _)
      | (with_reducible exact LeO.refl _)
      | (with_reducible exact LeO.none _)
      | (with_reducible refine LeO.ite ?_ ?_)
      | (with_reducible refine LeO.bind ?_ (fun _ => ?_))
      | exact ih0 _ _ _ _ _
      | exact ih1 _ _ _ _ _ _
      | exact ih2 _ _ _ _ _ _
      | exact ih3 _ _ _ _ _ _
      | exact ih4 _ _ _ _ _ _ _
      | exact hanaperref01_Int.mono _ _
      | exact hanaperref01_Text.mono _ _
      | exact LeO.none _
      | refine LeO.ite ?_ ?_
      | refine LeO.bind ?_ (fun _ => ?_)
    · intro y0 y1 y2 y3 y4 y5
      unfold hanaperref20_bytes.j2
      repeat' first
      | (with_reducible exact ih0 _ _ _ _ _)
      | (with_reducible exact ih1 _ _ _ _ _ _)
      | (with_reducible exact ih2 _ _ _ _ _ _)
      | (with_reducible exact ih3 _ _ _ _ _ _)
      | (with_reducible exact ih4 _ _ _ _ _ _ _)
      | (with_reducible exact hanaperref01_Int.mono _ _)
      | (with_reducible exact hanaperref01_Text.mono _ _)
      | (with_reducible exact LeO.refl _)
      | (with_reducible exact LeO.none _)
      | (with_reducible refine LeO.ite ?_ ?_)
      | (with_reducible refine LeO.bind ?_ (fun _ => ?_))
      | exact ih0 _ _ _ _ _
      | exact ih1 _ _ _ _ _ _
      | exact ih2 _ _ _ _ _ _
      | exact ih3 _ _ _ _ _ _
      | exact ih4 _ _ _ _ _ _ _
      | exact hanaperref01_Int.mono _ _
      | exact hanaperref01_Text.mono _ _
      | exact LeO.none _
      | refine LeO.ite ?_ ?_
      | refine LeO.bind ?_ (fun _ => ?_)
    · intro y0 y1 y2 y3 y4 y5 y6
      unfold hanaperref20_bytes.l0
      repeat' first
      | (with_reducible exact ih0 _ _ _ _ _)
      | (with_reducible exact ih1 _ _ _ _ _ _)
      | (with_reducible exact ih2 _ _ _ _ _ _)
      | (with_reducible exact ih3 _ _ _ _ _ _)
      | (with_reducible exact ih4 _ _ _ _ _ _ _)
      | (with_reducible exact hanaperref01_Int.mono _ _)
      | (with_reducible exact hanaperref01_Text.mono _ _)
      | (with_reducible exact LeO.refl _)
      | (with_reducible exact LeO.none _)
      | (with_reducible refine LeO.ite ?_ ?_)
      | (with_reducible refine LeO.bind ?_ (fun _ => ?_))
      | exact ih0 _ _ _ _ _
      | exact ih1 _ _ _ _ _ _
      | exact ih2 _ _ _ _ _ _
      | exact ih3 _ _ _ _ _ _
      | exact ih4 _ _ _ _ _ _ _
      | exact hanaperref01_Int.mono _ _
      | exact hanaperref01_Text.mono _ _
      | exact LeO.none _
      | refine LeO.ite ?_ ?_
      | refine LeO.bind ?_ (fun _ => ?_)
theorem hanaperref20_bytes.mono : ∀ a0 a1 a2 a3 a4 k, LeO (hanaperref20_bytes.f k a0 a1 a2 a3 a4) (hanaperref20_bytes.f (k + 1) a0 a1 a2 a3 a4) := by
  intro a0 a1 a2 a3 a4 k
  obtain ⟨ih0, ih1, ih2, ih3, ih4⟩ := hanaperref20_bytes.mono_l k
  exact ih0 a0 a1 a2 a3 a4
def hanaperref20_bytes.T5 : Bool × List (List Nat × List Nat) := (true, [([], []), ([], []), ([1], [1]), ([2], [2]), ([0, 3, 3], [0, 3]), ([], []), ([5], [5]), ([6, 4], [6]), ([4, 7, 7], [4, 7]), ([8, 8, 0, 1, 2, 3, 4, 5, 6, 7, 8], [0, 8])])
def hanaperref20_bytes.B5 : List Nat := [0, 0, 2, 6, 15, 0, 32, 127, 255, 511]
theorem hanaperref20_bytes.tab5 : rtab .any (opsOf Try.f69 5) = hanaperref20_bytes.T5 := by kernel_rfl
theorem hanaperref20_bytes.bits5 : waitsOk hanaperref20_bytes.T5.2 hanaperref20_bytes.B5 = true := by kernel_rfl
set_option maxHeartbeats 8000000 in
set_option maxRecDepth 100000 in
theorem hanaperref20_bytes.calls (k : Nat) : ∀ (a0_0 : Int) (a0_1 : ByteArray) (a0_2 : Int) (a0_3 : Int) (A0_4 : Option Addr) (c0_4 : Nat) (l0_4 : List (S40)) (r : List Int) (w : World) (hr0_4 : Kd.C k40 w A0_4 l0_4.length l0_4) (hc0_4 : l0_4.length ≤ c0_4) (h : hanaperref20_bytes.f k a0_0 a0_1 a0_2 a0_3 l0_4 = some r),
    Calls Try.prog 69 #[.agg #[.int .i64 a0_0, .string a0_1, .int .i64 a0_2, .int .i64 a0_3, .slice A0_4 l0_4.length c0_4]] w fun e w' => ∃ v0_ : Value, e = .returned (v0_) ∧ Kd.R (Kd.int .u8) 5 w' w.heap.size (fun _ => True) v0_ r ∧ Below w.heap.size w w' := by
  induction k using Nat.strongRecOn with
  | _ k ih =>
  intro a0_0 a0_1 a0_2 a0_3 A0_4 c0_4 l0_4 r w hr0_4 hc0_4 h
  cases k with
  | zero => exact absurd h (by simp [hanaperref20_bytes.f])
  | succ k =>
  simp only [hanaperref20_bytes.f] at h
  have hu40 := Try.underlying40
  have HR0_4 := Aside0.mk hr0_4
  have HC0_4 := Aside0.mk hc0_4
  clear hr0_4 hc0_4
  have HB := Aside0.mk (Below.refl w.heap.size w)
  have H : ((some (([(a0_0) % 256] : List Int) : List Int)).bind fun y277 => ((hanaperref20_named.f a0_0).bind fun t280 => (if t280 = true then ((hanaperref01_TextS.f a0_1).bind fun t281 => (if y277.length + t281.length < 140737488355328 then (hanaperref20_bytes.j0 k (y277 ++ t281) a0_0 a0_1 a0_2 a0_3 l0_4) else (none))) else (hanaperref20_bytes.j0 k y277 a0_0 a0_1 a0_2 a0_3 l0_4)))) = some r := h
  clear h
  obtain ⟨y277, hy277⟩ : ∃ y_ : List Int, y_ = (([(a0_0) % 256] : List Int)) := ⟨_, rfl⟩
  replace H : ((hanaperref20_named.f a0_0).bind fun t280 => (if t280 = true then ((hanaperref01_TextS.f a0_1).bind fun t281 => (if y277.length + t281.length < 140737488355328 then (hanaperref20_bytes.j0 k (y277 ++ t281) a0_0 a0_1 a0_2 a0_3 l0_4) else (none))) else (hanaperref20_bytes.j0 k y277 a0_0 a0_1 a0_2 a0_3 l0_4))) = some r := by first | (rw [hy277]; with_reducible exact H) | (have H2_ := (Option.bind_some _ _).symm.trans H; rw [hy277]; with_reducible exact H2_) | (have H2_ := (Option.bind_some _ _).symm.trans H; with_reducible exact H2_) | with_reducible exact H | (rw [hy277]; exact H) | exact H
  have Ny277 := Aside0.mk hy277
  clear hy277
  replace H := Option.bind_eq_some_iff.mp H
  obtain ⟨t280, A20, H⟩ := H
  replace H : (if t280 = true then ((hanaperref01_TextS.f a0_1).bind fun t281 => (if y277.length + t281.length < 140737488355328 then (hanaperref20_bytes.j0 k (y277 ++ t281) a0_0 a0_1 a0_2 a0_3 l0_4) else (none))) else (hanaperref20_bytes.j0 k y277 a0_0 a0_1 a0_2 a0_3 l0_4)) = some r := H
  have A2 := Aside0.mk A20
  clear A20
  have HC3 := Aside0.mk H
  clear H
  go_enter Try.func69, Try.ntmps69
  go_upto_if 11 with (first | ((with_reducible refine gate_dst (N := 1) rfl ?_); refine box_event ?hg (N := 1) ?hd (cs := #[.int .i64 a0_0, .string a0_1, .int .i64 a0_2, .int .i64 a0_3, .slice A0_4 l0_4.length c0_4]) (t := 40) ?hr ?_; (case hd => rfl); (case hg => rfl); (case hr => first | (go_simp; done) | (go_simp; rfl)); intro gb276 hg w4 hbox hb; have n0_ := Aside0.mk (below_step (by repeat (first | (with_reducible first | exact HB.out | apply below_alloc | apply pw_below_drewN | apply below_drew1) | exact HB.out)) hb); have n1_ := Aside0.mk (hbox); have n2_ := Aside0.mk ((by rw [hg]; exact (below_size (by repeat (first | (with_reducible first | exact HB.out | apply below_alloc | apply pw_below_drewN | apply below_drew1) | exact HB.out))) : w.heap.size ≤ gb276)); have n3_ := Aside0.mk ((by rw [hg]; exact (below_size (by repeat (first | (with_reducible first | exact HB.out | apply below_alloc | apply pw_below_drewN | apply below_drew1) | exact HB.out))) : w.heap.size ≤ gb276)); clear HB; have HB := n0_; have BK276 := n1_; have GW276 := n2_; have GE276 := n3_; clear n0_ n1_ n2_ n3_; clear hb hbox hg; have hcz5_0 : w4.cell? ⟨gb276, 0, none⟩ = some (.int .i64 a0_0) := (blk_cell BK276.out 0).trans rfl; have hcz5_1 : w4.cell? ⟨gb276, 1, none⟩ = some (.string a0_1) := (blk_cell BK276.out 1).trans rfl; have hcz5_2 : w4.cell? ⟨gb276, 2, none⟩ = some (.int .i64 a0_2) := (blk_cell BK276.out 2).trans rfl; have hcz5_3 : w4.cell? ⟨gb276, 3, none⟩ = some (.int .i64 a0_3) := (blk_cell BK276.out 3).trans rfl; have hcz5_4 : w4.cell? ⟨gb276, 4, none⟩ = some (.slice A0_4 l0_4.length c0_4) := (blk_cell BK276.out 4).trans rfl; have hfz5_0 := blk_frozen BK276.out 0; have hfz5_1 := blk_frozen BK276.out 1; have hfz5_2 := blk_frozen BK276.out 2; have hfz5_3 := blk_frozen BK276.out 3; have hfz5_4 := blk_frozen BK276.out 4) | ((with_reducible refine gate_dst (N := 8) rfl ?_); refine Kd.R_lit (Kd.int .u8) _ 5 ?hg (N := 8) ?hd (xs := ([(a0_0) % 256] : List Int)) (inner := [.int .u8 ((a0_0) % 256)]) (ok := fun _ => True) (okp := fun _ => True) ?hr ?hp (fun _ hk => hk) trivial (Below.refl _ _) (Nat.le_refl _) (by simp) ?_; (case hd => rfl); (case hg => rfl); (case hr => first | (go_simp; done) | (go_simp; rfl)); (case hp => exact (Reps.one (show Kd.M (Kd.int .u8) _ _ _ ((a0_0) % 256) [.int .u8 ((a0_0) % 256)] from rfl) (Reps.none _ _))); intro v278 w6 ho7 hb hg_ hnew_; clear hg_ hnew_; (first | rw [← Ny277.out] at ho7 | (simp only [Int.reduceToNat] at ho7; rw [← Ny277.out] at ho7)); have n0_ := Aside0.mk (Kd.R_lower ho7 (below_size (by repeat (first | (with_reducible first | exact HB.out | apply below_alloc | apply pw_below_drewN | apply below_drew1 | refine below_set ?_ GE276.out) | exact HB.out)))); have n1_ := Aside0.mk (blk_below (g := gb276) (o := .cells #[.int .i64 a0_0, .string a0_1, .int .i64 a0_2, .int .i64 a0_3, .slice A0_4 l0_4.length c0_4] 40 (0, 0)) (by (with_reducible repeat (first | refine blk_drewN ?_ _ | refine blk_drew ?_ | refine blk_alloc ?_ _)); exact BK276.out) hb); have n2_ := Aside0.mk (below_step (by repeat (first | (with_reducible first | exact HB.out | apply below_alloc | apply pw_below_drewN | apply below_drew1 | refine below_set ?_ GE276.out) | exact HB.out)) hb); clear BK276; clear HB; have HO279 := n0_; have BK276 := n1_; have HB := n2_; clear n0_ n1_ n2_; clear hb ho7; have hcz8_0 : w6.cell? ⟨gb276, 0, none⟩ = some (.int .i64 a0_0) := (blk_cell BK276.out 0).trans rfl; have hcz8_1 : w6.cell? ⟨gb276, 1, none⟩ = some (.string a0_1) := (blk_cell BK276.out 1).trans rfl; have hcz8_2 : w6.cell? ⟨gb276, 2, none⟩ = some (.int .i64 a0_2) := (blk_cell BK276.out 2).trans rfl; have hcz8_3 : w6.cell? ⟨gb276, 3, none⟩ = some (.int .i64 a0_3) := (blk_cell BK276.out 3).trans rfl; have hcz8_4 : w6.cell? ⟨gb276, 4, none⟩ = some (.slice A0_4 l0_4.length c0_4) := (blk_cell BK276.out 4).trans rfl; have hfz8_0 := blk_frozen BK276.out 0; have hfz8_1 := blk_frozen BK276.out 1; have hfz8_2 := blk_frozen BK276.out 2; have hfz8_3 := blk_frozen BK276.out 3; have hfz8_4 := blk_frozen BK276.out 4) | ((with_reducible refine gate_callee (f := 111) rfl ?_); refine goesL_ (some 11) rfl rfl Try.func111 (by kernel_rfl) rfl #[.int .i64 a0_0] rfl (by (try simp only [List.map_toArray, List.map_cons, List.map_nil]); first | done | rfl | (simp only [List.length_drop, List.length_take]; rfl)) ?_; (with_reducible refine (hanaperref20_named.calls a0_0 t280 _ A2.out).mono ?_); rintro e w' ⟨rfl, ⟨nd, rfl⟩⟩; refine ⟨_, rfl, ?_⟩))
  (try simp only [Act.put, List.setIfInBounds_toArray, List.set_cons_zero, List.set_cons_succ])
  go_cut [3] (fun v3 wc => ∃ (kq : Nat) (x3_2 : List Int), Aside0 (hanaperref20_bytes.j0 kq x3_2 a0_0 a0_1 a0_2 a0_3 l0_4 = some r) ∧ Aside0 (kq ≤ k) ∧ Aside0 (Kd.R (Kd.int .u8) 5 wc w.heap.size (fun _ => True) v3 x3_2) ∧ Aside0 (wc.heap[gb276]? = some (.cells #[.int .i64 a0_0, .string a0_1, .int .i64 a0_2, .int .i64 a0_3, (.slice A0_4 l0_4.length c0_4)] 40 (0, 0))) ∧ Aside0 (Below w.heap.size w wc))
  case first =>
    have H := HC3.out
    clear HC3
    by_cases c9 : t280 = true
    · subst c9
      have H1 : ((hanaperref01_TextS.f a0_1).bind fun t281 => (if y277.length + t281.length < 140737488355328 then (hanaperref20_bytes.j0 k (y277 ++ t281) a0_0 a0_1 a0_2 a0_3 l0_4) else (none))) = some r := by rw [if_pos rfl] at H; exact H
      clear H
      have H := H1
      clear H1
      replace H := Option.bind_eq_some_iff.mp H
      obtain ⟨t281, A100, H⟩ := H
      replace H : (if y277.length + t281.length < 140737488355328 then (hanaperref20_bytes.j0 k (y277 ++ t281) a0_0 a0_1 a0_2 a0_3 l0_4) else (none)) = some r := H
      have A10 := Aside0.mk A100
      clear A100
      by_cases c11 : y277.length + t281.length < 140737488355328
      · rw [if_pos c11] at H
        have LMc11 := Aside0.mk c11
        clear c11
        obtain ⟨y284, hy284⟩ : ∃ y_ : List Int, y_ = (y277 ++ t281) := ⟨_, rfl⟩
        replace H : (hanaperref20_bytes.j0 k y284 a0_0 a0_1 a0_2 a0_3 l0_4) = some r := by first | (rw [hy284]; with_reducible exact H) | (have H2_ := (Option.bind_some _ _).symm.trans H; rw [hy284]; with_reducible exact H2_) | (have H2_ := (Option.bind_some _ _).symm.trans H; with_reducible exact H2_) | with_reducible exact H | (rw [hy284]; exact H) | exact H
        have Ny284 := Aside0.mk hy284
        clear hy284
        have H' := Aside0.mk H
        clear H
        have hcz12_0 : w6.cell? ⟨gb276, 0, none⟩ = some (.int .i64 a0_0) := (blk_cell BK276.out 0).trans rfl
        have hcz12_1 : w6.cell? ⟨gb276, 1, none⟩ = some (.string a0_1) := (blk_cell BK276.out 1).trans rfl
        have hcz12_2 : w6.cell? ⟨gb276, 2, none⟩ = some (.int .i64 a0_2) := (blk_cell BK276.out 2).trans rfl
        have hcz12_3 : w6.cell? ⟨gb276, 3, none⟩ = some (.int .i64 a0_3) := (blk_cell BK276.out 3).trans rfl
        have hcz12_4 : w6.cell? ⟨gb276, 4, none⟩ = some (.slice A0_4 l0_4.length c0_4) := (blk_cell BK276.out 4).trans rfl
        have hfz12_0 := blk_frozen BK276.out 0
        have hfz12_1 := blk_frozen BK276.out 1
        have hfz12_2 := blk_frozen BK276.out 2
        have hfz12_3 := blk_frozen BK276.out 3
        have hfz12_4 := blk_frozen BK276.out 4
        have hkb13 := fun W => print_bytes (P := Try.prog) 9 27 5 Try.underlying9 Try.underlying27 Try.underlying5 a0_1 W
        go_wp2_with (first | (go_at_call 60; (with_reducible refine (hanaperref01_TextS.calls a0_1 t281 _ A10.out).mono ?_); rintro e w14 ⟨v282, rfl, ho0, hb⟩; have n0_ := Aside0.mk (Kd.R_elder' (by (with_reducible repeat (first | apply Kd.R_alloc | apply Kd.R_drewN | apply Kd.R_drew)); exact HO279.out) (Kd.R_base ho0) hb); have n1_ := Aside0.mk (Kd.R_lower (Kd.R_new' ho0 (Kd.R_lt (by (with_reducible repeat (first | apply Kd.R_alloc | apply Kd.R_drewN | apply Kd.R_drew)); exact HO279.out))) (below_size (by repeat (first | (with_reducible first | exact HB.out | apply below_alloc | apply pw_below_drewN | apply below_drew1 | refine below_set ?_ GE276.out) | exact HB.out)))); have n2_ := Aside0.mk (blk_below (g := gb276) (o := .cells #[.int .i64 a0_0, .string a0_1, .int .i64 a0_2, .int .i64 a0_3, .slice A0_4 l0_4.length c0_4] 40 (0, 0)) (by (with_reducible repeat (first | refine blk_drewN ?_ _ | refine blk_drew ?_ | refine blk_alloc ?_ _)); exact BK276.out) hb); have n3_ := Aside0.mk (below_step (by repeat (first | (with_reducible first | exact HB.out | apply below_alloc | apply pw_below_drewN | apply below_drew1 | refine below_set ?_ GE276.out) | exact HB.out)) hb); clear HO279; clear BK276; clear HB; have HO279 := n0_; have HO283 := n1_; have BK276 := n2_; have HB := n3_; clear n0_ n1_ n2_ n3_; (try clear hb); (try clear hb2); (try clear hk); (try clear hi); (try clear ho0); obtain ⟨Ao16, co16, eo16⟩ := Kd.R_slice HO283.out; subst eo16) | ((with_reducible refine gate_builtin (b := .append) (xs := #[.tmp 12, .tmp 16]) rfl ?_); at_builtin; refine Kd.R_append_rows (Kd.int .u8) (w0 := w) w.heap.size rfl (.tmp 12) (.tmp 16) 27 5 (.int .u8 0) 1 rfl Try.underlying27 info5 rfl (by decide) (by omega) v278 y277 t281 _ _ _ (fun k_ => some k_ ≠ (.slice Ao16 t281.length co16 : Value).ownBlock) (fun _ => False) rfl rfl ?aO ?aR (fun _ _ h => h) (fun _ h => h.elim) ?aF ?aB ?aS ?aL ?_; (case aR => repeat (first | exact (Kd.R_reads' HO283.out).2.2 | (with_reducible refine Kd.C_alloc ?_ _) | (with_reducible refine Kd.C_drewN ?_ _) | (with_reducible refine Kd.C_drew ?_))); (case aB => exact (by repeat (first | (with_reducible first | exact HB.out | apply below_alloc | apply pw_below_drewN | apply below_drew1 | refine below_set ?_ GE276.out) | exact HB.out))); (case aF => exact (fun k_ hk => Kd.fresh' (Kd.R_lt (by (with_reducible repeat (first | apply Kd.R_alloc | apply Kd.R_drewN | apply Kd.R_drew)); exact HO283.out)) k_ hk)); (case aO => exact (by (with_reducible repeat (first | apply Kd.R_alloc | apply Kd.R_drewN | apply Kd.R_drew)); exact Kd.R_mono HO279.out (fun _ hk => hk.2))); (case aS => exact (below_size (by repeat (first | (with_reducible first | exact HB.out | apply below_alloc | apply pw_below_drewN | apply below_drew1 | refine below_set ?_ GE276.out) | exact HB.out)))); (case aL => have := LMc11.out; omega); intro v285 w15 ho hb hg hat; rw [← Ny284.out] at ho; have n0_ := Aside0.mk (blk_grown (g := gb276) (o := .cells #[.int .i64 a0_0, .string a0_1, .int .i64 a0_2, .int .i64 a0_3, .slice A0_4 l0_4.length c0_4] 40 (0, 0)) (by (with_reducible repeat (first | refine blk_drewN ?_ _ | refine blk_drew ?_ | refine blk_alloc ?_ _)); exact BK276.out) hg (Kd.R_ne HO279.out BK276.out (by decide))); have n1_ := Aside0.mk (Kd.R_after (ok := (fun _ => True)) (by (with_reducible repeat (first | apply Kd.R_alloc | apply Kd.R_drewN | apply Kd.R_drew)); exact HO283.out) hg hat); have n2_ := Aside0.mk (hb); have n3_ := Aside0.mk (ho); clear BK276; clear HO283; clear HB; clear HO279; have BK276 := n0_; have HO283 := n1_; have HB := n2_; have HO286 := n3_; clear n0_ n1_ n2_ n3_; clear ho hb hg hat))
        go_meet
        case rel => exact ⟨_, (y284), H', ⟨by first | omega | exact Nat.le_refl _⟩, ⟨by (with_reducible repeat (first | apply Kd.R_alloc | apply Kd.R_drewN | apply Kd.R_drew)); exact Kd.R_mono HO286.out (fun _ hk => trivial)⟩, ⟨by (with_reducible repeat (first | refine blk_drewN ?_ _ | refine blk_drew ?_ | refine blk_alloc ?_ _)); exact BK276.out⟩, ⟨by repeat (first | (with_reducible first | exact HB.out | apply below_alloc | apply pw_below_drewN | apply below_drew1 | refine below_set ?_ GE276.out) | exact HB.out)⟩⟩
      · rw [if_neg c11] at H
        exact absurd H (by simp)
    · replace c9 := Bool.eq_false_iff.mpr c9
      subst c9
      have H1 : (hanaperref20_bytes.j0 k y277 a0_0 a0_1 a0_2 a0_3 l0_4) = some r := by rw [if_neg (show ¬ (false = true) by decide)] at H; exact H
      clear H
      have H := H1
      clear H1
      have H' := Aside0.mk H
      clear H
      go_wp2
      go_meet
      case rel => exact ⟨_, (y277), H', ⟨by first | omega | exact Nat.le_refl _⟩, ⟨by (with_reducible repeat (first | apply Kd.R_alloc | apply Kd.R_drewN | apply Kd.R_drew)); exact HO279.out⟩, ⟨by (with_reducible repeat (first | refine blk_drewN ?_ _ | refine blk_drew ?_ | refine blk_alloc ?_ _)); exact BK276.out⟩, ⟨by repeat (first | (with_reducible first | exact HB.out | apply below_alloc | apply pw_below_drewN | apply below_drew1 | refine below_set ?_ GE276.out) | exact HB.out)⟩⟩
  case rest =>
    clear HC3
    try clear c1
    try clear p2
    try clear c6
    try clear c9
    try clear c11
    try clear hcz12_0
    try clear hcz12_1
    try clear hcz12_2
    try clear hcz12_3
    try clear hcz12_4
    try clear hcz5_0
    try clear hcz5_1
    try clear hcz5_2
    try clear hcz5_3
    try clear hcz5_4
    try clear hcz8_0
    try clear hcz8_1
    try clear hcz8_2
    try clear hcz8_3
    try clear hcz8_4
    try clear hfz12_0
    try clear hfz12_1
    try clear hfz12_2
    try clear hfz12_3
    try clear hfz12_4
    try clear hfz5_0
    try clear hfz5_1
    try clear hfz5_2
    try clear hfz5_3
    try clear hfz5_4
    try clear hfz8_0
    try clear hfz8_1
    try clear hfz8_2
    try clear hfz8_3
    try clear hfz8_4
    obtain ⟨kq, x3_2, HA, HJ2, HO_3, BK276, HB⟩ := hcut
    cases kq with
    | zero => exact absurd HA.out (by simp [hanaperref20_bytes.j0])
    | succ kj2 =>
      have H := HA.out
      clear HA
      simp only [hanaperref20_bytes.j0] at H
      have HC17 := Aside0.mk H
      clear H
      have hcz18_0 : wc.cell? ⟨gb276, 0, none⟩ = some (.int .i64 a0_0) := (blk_cell BK276.out 0).trans rfl
      have hcz18_1 : wc.cell? ⟨gb276, 1, none⟩ = some (.string a0_1) := (blk_cell BK276.out 1).trans rfl
      have hcz18_2 : wc.cell? ⟨gb276, 2, none⟩ = some (.int .i64 a0_2) := (blk_cell BK276.out 2).trans rfl
      have hcz18_3 : wc.cell? ⟨gb276, 3, none⟩ = some (.int .i64 a0_3) := (blk_cell BK276.out 3).trans rfl
      have hcz18_4 : wc.cell? ⟨gb276, 4, none⟩ = some (.slice A0_4 l0_4.length c0_4) := (blk_cell BK276.out 4).trans rfl
      have hfz18_0 := blk_frozen BK276.out 0
      have hfz18_1 := blk_frozen BK276.out 1
      have hfz18_2 := blk_frozen BK276.out 2
      have hfz18_3 := blk_frozen BK276.out 3
      have hfz18_4 := blk_frozen BK276.out 4
      go_upto_if 20 with (fail)
      go_cut [3] (fun v3 wc => ∃ (kq : Nat) (x3_16 : List Int), Aside0 (hanaperref20_bytes.j1 kq x3_16 a0_0 a0_1 a0_2 a0_3 l0_4 = some r) ∧ Aside0 (kq ≤ kj2) ∧ Aside0 (Kd.R (Kd.int .u8) 5 wc w.heap.size (fun _ => True) v3 x3_16) ∧ Aside0 (wc.heap[gb276]? = some (.cells #[.int .i64 a0_0, .string a0_1, .int .i64 a0_2, .int .i64 a0_3, (.slice A0_4 l0_4.length c0_4)] 40 (0, 0))) ∧ Aside0 (Below w.heap.size w wc))
      case first =>
        have H := HC17.out
        clear HC17
        by_cases c19 : a0_0 = 5
        · rw [if_pos c19] at H
          have c19b0 : (a0_0 == 5) = true := beq_iff_eq.mpr c19
          have c19b1 : (a0_0 != 5) = false := bne_eq_false_iff_eq.mpr c19
          clear c19
          (first | rw [c19b0] | (simp only [i64_w, i32_w]; rw [c19b0]) | skip)
          replace H := Option.bind_eq_some_iff.mp H
          obtain ⟨t287, A200, H⟩ := H
          replace H : (if x3_2.length + t287.length < 140737488355328 then ((some (x3_2 ++ t287 : List Int)).bind fun y290 => ((hanaperref01_Int.f kj2 a0_3).bind fun t293 => (if y290.length + t293.length < 140737488355328 then (hanaperref20_bytes.j1 kj2 (y290 ++ t293) a0_0 a0_1 a0_2 a0_3 l0_4) else (none)))) else (none)) = some r := H
          have A20 := Aside0.mk A200
          clear A200
          by_cases c21 : x3_2.length + t287.length < 140737488355328
          · rw [if_pos c21] at H
            have LMc21 := Aside0.mk c21
            clear c21
            obtain ⟨y290, hy290⟩ : ∃ y_ : List Int, y_ = (x3_2 ++ t287) := ⟨_, rfl⟩
            replace H : ((hanaperref01_Int.f kj2 a0_3).bind fun t293 => (if y290.length + t293.length < 140737488355328 then (hanaperref20_bytes.j1 kj2 (y290 ++ t293) a0_0 a0_1 a0_2 a0_3 l0_4) else (none))) = some r := by first | (rw [hy290]; with_reducible exact H) | (have H2_ := (Option.bind_some _ _).symm.trans H; rw [hy290]; with_reducible exact H2_) | (have H2_ := (Option.bind_some _ _).symm.trans H; with_reducible exact H2_) | with_reducible exact H | (rw [hy290]; exact H) | exact H
            have Ny290 := Aside0.mk hy290
            clear hy290
            replace H := Option.bind_eq_some_iff.mp H
            obtain ⟨t293, A220, H⟩ := H
            replace H : (if y290.length + t293.length < 140737488355328 then (hanaperref20_bytes.j1 kj2 (y290 ++ t293) a0_0 a0_1 a0_2 a0_3 l0_4) else (none)) = some r := H
            have A22 := Aside0.mk A220
            clear A220
            by_cases c23 : y290.length + t293.length < 140737488355328
            · rw [if_pos c23] at H
              have LMc23 := Aside0.mk c23
              clear c23
              obtain ⟨y296, hy296⟩ : ∃ y_ : List Int, y_ = (y290 ++ t293) := ⟨_, rfl⟩
              replace H : (hanaperref20_bytes.j1 kj2 y296 a0_0 a0_1 a0_2 a0_3 l0_4) = some r := by first | (rw [hy296]; with_reducible exact H) | (have H2_ := (Option.bind_some _ _).symm.trans H; rw [hy296]; with_reducible exact H2_) | (have H2_ := (Option.bind_some _ _).symm.trans H; with_reducible exact H2_) | with_reducible exact H | (rw [hy296]; exact H) | exact H
              have Ny296 := Aside0.mk hy296
              clear hy296
              have H' := Aside0.mk H
              clear H
              try go_wp2
              have n0_ := Aside0.mk (Kd.R_drew HO_3.out)
              have n1_ := Aside0.mk (blk_drew BK276.out)
              have n2_ := Aside0.mk (below_drew1 HB.out)
              clear HO_3
              clear BK276
              clear HB
              have HO_3 := n0_
              have BK276 := n1_
              have HB := n2_
              clear n0_ n1_ n2_
              refine start_ (n := 10) (S := fun w' => w'.cell? ⟨gb276, 0, none⟩ = some (.int .i64 a0_0) ∧ w'.cell? ⟨gb276, 1, none⟩ = some (.string a0_1) ∧ w'.cell? ⟨gb276, 2, none⟩ = some (.int .i64 a0_2) ∧ w'.cell? ⟨gb276, 3, none⟩ = some (.int .i64 a0_3) ∧ w'.cell? ⟨gb276, 4, none⟩ = some (.slice A0_4 l0_4.length c0_4)) (ds := []) #[false, false, false, false, false, false, false, false, false, false] (by kernel_rfl) rfl rfl ⟨(blk_cell BK276.out 0).trans rfl, (blk_cell BK276.out 1).trans rfl, (blk_cell BK276.out 2).trans rfl, (blk_cell BK276.out 3).trans rfl, (blk_cell BK276.out 4).trans rfl⟩ (fun hHeld => ?_); refine with_tabW hanaperref20_bytes.tab5 hanaperref20_bytes.bits5 (fun HT_ HW_ => ?_)
              generalize wc.drew = w24 at HO_3 BK276 HB hHeld ⊢
              refine pure_ (i := 0) (N := some 21) (v := ?_) (a' := ?_) #[true, false, false, false, false, false, false, false, false, false] rfl rfl (any_of HT_.out (by kernel_rfl)) (fun _ _ _ h => h) (Or.inl ⟨by rfl, ?_⟩) ?_ ?_
              rotate_left
              · intro w'
                go_simp
                with_reducible rfl
              rotate_left
              · simp only [Act.put, List.setIfInBounds_toArray, List.set_cons_zero, List.set_cons_succ, i64_w, i32_w]
                rfl
              refine pure_ (i := 1) (N := some 22) (v := ?_) (a' := ?_) #[true, true, false, false, false, false, false, false, false, false] rfl rfl (any_of HT_.out (by kernel_rfl)) (fun _ _ _ h => h) (Or.inl ⟨by rfl, ?_⟩) ?_ ?_
              rotate_left
              · intro w'
                go_simp
                with_reducible rfl
              rotate_left
              · simp only [Act.put, List.setIfInBounds_toArray, List.set_cons_zero, List.set_cons_succ, i64_w, i32_w]
                rfl
              refine pure_ (i := 5) (N := some 26) (v := ?_) (a' := ?_) #[true, true, false, false, false, true, false, false, false, false] rfl rfl (any_of HT_.out (by kernel_rfl)) (fun _ _ _ h => h) (Or.inl ⟨by rfl, ?_⟩) ?_ ?_
              rotate_left
              · intro w'
                go_simp
                with_reducible rfl
              rotate_left
              · simp only [Act.put, List.setIfInBounds_toArray, List.set_cons_zero, List.set_cons_succ, i64_w, i32_w]
                rfl
              refine take_ (i := 2) (N := some 23) (v := ?_) (a' := ?_) #[true, true, true, false, false, true, false, false, false, false] rfl rfl (take_ofW HT_.out HW_.out (by kernel_rfl)) (fun _ _ _ h => h) (Or.inl ⟨by rfl, ?_⟩) hHeld ?_ ?_
              rotate_left
              · rintro w' ⟨s0, s1, s2, s3, s4⟩
                go_simp
                with_reducible rfl
              rotate_left
              · simp only [Act.put, List.setIfInBounds_toArray, List.set_cons_zero, List.set_cons_succ, i64_w, i32_w]
                rfl
              refine take_ (i := 6) (N := some 27) (v := ?_) (a' := ?_) #[true, true, true, false, false, true, true, false, false, false] rfl rfl (take_ofW HT_.out HW_.out (by kernel_rfl)) (fun _ _ _ h => h) (Or.inl ⟨by rfl, ?_⟩) hHeld ?_ ?_
              rotate_left
              · rintro w' ⟨s0, s1, s2, s3, s4⟩
                go_simp
                with_reducible rfl
              rotate_left
              · simp only [Act.put, List.setIfInBounds_toArray, List.set_cons_zero, List.set_cons_succ, i64_w, i32_w]
                rfl
              refine one_ (i := 3) (N := some 24) #[true, true, true, true, false, true, true, false, false, false] rfl rfl (one_of HT_.out (by kernel_rfl)) (by decide) (fun K hK => ?_)
              refine goes_ Try.func61 (by kernel_rfl) rfl #[.int .i64 a0_2] (by rfl) rfl rfl (by (try simp only [List.map_toArray, List.map_cons, List.map_nil]); first | done | rfl | (simp only [List.length_drop, List.length_take]; rfl)) ?_
              with_reducible refine (hanaperref01_Int.calls kj2 a0_2 t287 _ A20.out).mono ?_
              rintro e w25 ⟨v288, rfl, ho0, hb⟩
              refine ⟨_, rfl, ?_⟩
              have n0_ := Aside0.mk (Kd.R_elder' (by (with_reducible repeat (first | apply Kd.R_alloc | apply Kd.R_drewN | apply Kd.R_drew)); exact HO_3.out) (Kd.R_base ho0) hb)
              have n1_ := Aside0.mk (Kd.R_lower (Kd.R_new' ho0 (Kd.R_lt (by (with_reducible repeat (first | apply Kd.R_alloc | apply Kd.R_drewN | apply Kd.R_drew)); exact HO_3.out))) (below_size (by repeat (first | (with_reducible first | exact HB.out | apply below_alloc | apply pw_below_drewN | apply below_drew1 | refine below_set ?_ GE276.out) | exact HB.out))))
              have n2_ := Aside0.mk (blk_below (g := gb276) (o := .cells #[.int .i64 a0_0, .string a0_1, .int .i64 a0_2, .int .i64 a0_3, .slice A0_4 l0_4.length c0_4] 40 (0, 0)) (by (with_reducible repeat (first | refine blk_drewN ?_ _ | refine blk_drew ?_ | refine blk_alloc ?_ _)); exact BK276.out) hb)
              have n3_ := Aside0.mk (below_step (by repeat (first | (with_reducible first | exact HB.out | apply below_alloc | apply pw_below_drewN | apply below_drew1 | refine below_set ?_ GE276.out) | exact HB.out)) hb)
              clear HO_3
              clear BK276
              clear HB
              have HO_3 := n0_
              have HO289 := n1_
              have BK276 := n2_
              have HB := n3_
              clear n0_ n1_ n2_ n3_
              (try clear hb)
              (try clear hb2)
              (try clear hk)
              (try clear hi)
              (try clear ho0)
              obtain ⟨Ao27, co27, eo27⟩ := Kd.R_slice HO289.out
              (first | subst eo27 | (injection eo27 with f1_ f2_ f3_; have f4_ := f1_.symm; have f5_ := f3_.symm; clear f1_ f2_ f3_; subst f4_; subst f5_))
              refine hK.out _ _ ⟨(blk_cell BK276.out 0).trans rfl, (blk_cell BK276.out 1).trans rfl, (blk_cell BK276.out 2).trans rfl, (blk_cell BK276.out 3).trans rfl, (blk_cell BK276.out 4).trans rfl⟩ (fun hHeld => ?_)
              clear hK K
              refine norm_ (a' := ?_) ?_ ?_
              rotate_left
              · show Act.put _ (some 24) _ = _
                simp only [Act.put, List.setIfInBounds_toArray, List.set_cons_zero, List.set_cons_succ, i64_w, i32_w]
                rfl
              refine one_ (i := 4) (N := some 25) #[true, true, true, true, true, true, true, false, false, false] rfl rfl (one_of HT_.out (by kernel_rfl)) (by decide) (fun K hK => ?_)
              refine Kd.R_append_rows_step (Kd.int .u8) (w0 := w) w.heap.size (by rfl) (.tmp 21) (.tmp 24) 27 5 (.int .u8 0) 1 rfl Try.underlying27 info5 rfl (by decide) (by omega) u3 x3_2 t287 _ _ _ (fun k_ => some k_ ≠ (.slice Ao27 t287.length co27 : Value).ownBlock) (fun _ => False) rfl rfl ?aO ?aR (fun _ _ h => h) (fun _ h => h.elim) ?aF ?aB ?aS ?aL ?_
              (case aR => repeat (first | exact (Kd.R_reads' HO289.out).2.2 | (with_reducible refine Kd.C_alloc ?_ _) | (with_reducible refine Kd.C_drewN ?_ _) | (with_reducible refine Kd.C_drew ?_)))
              (case aB => exact (by repeat (first | (with_reducible first | exact HB.out | apply below_alloc | apply pw_below_drewN | apply below_drew1 | refine below_set ?_ GE276.out) | exact HB.out)))
              (case aF => exact (fun k_ hk => Kd.fresh' (Kd.R_lt (by (with_reducible repeat (first | apply Kd.R_alloc | apply Kd.R_drewN | apply Kd.R_drew)); exact HO289.out)) k_ hk))
              (case aO => exact (by (with_reducible repeat (first | apply Kd.R_alloc | apply Kd.R_drewN | apply Kd.R_drew)); exact Kd.R_mono HO_3.out (fun _ hk => hk.2)))
              (case aS => exact (below_size (by repeat (first | (with_reducible first | exact HB.out | apply below_alloc | apply pw_below_drewN | apply below_drew1 | refine below_set ?_ GE276.out) | exact HB.out))))
              (case aL => have := LMc21.out; omega)
              intro v291 w26 ho hb hg hat
              rw [← Ny290.out] at ho
              have n0_ := Aside0.mk (blk_grown (g := gb276) (o := .cells #[.int .i64 a0_0, .string a0_1, .int .i64 a0_2, .int .i64 a0_3, .slice A0_4 l0_4.length c0_4] 40 (0, 0)) (by (with_reducible repeat (first | refine blk_drewN ?_ _ | refine blk_drew ?_ | refine blk_alloc ?_ _)); exact BK276.out) hg (Kd.R_ne HO_3.out BK276.out (by decide)))
              have n1_ := Aside0.mk (Kd.R_after (ok := (fun _ => True)) (by (with_reducible repeat (first | apply Kd.R_alloc | apply Kd.R_drewN | apply Kd.R_drew)); exact HO289.out) hg hat)
              have n2_ := Aside0.mk (hb)
              have n3_ := Aside0.mk (ho)
              clear BK276
              clear HO289
              clear HB
              clear HO_3
              have BK276 := n0_
              have HO289 := n1_
              have HB := n2_
              have HO292 := n3_
              clear n0_ n1_ n2_ n3_
              clear ho hb hg hat
              refine hK.out _ _ ⟨(blk_cell BK276.out 0).trans rfl, (blk_cell BK276.out 1).trans rfl, (blk_cell BK276.out 2).trans rfl, (blk_cell BK276.out 3).trans rfl, (blk_cell BK276.out 4).trans rfl⟩ (fun hHeld => ?_)
              clear hK K
              refine norm_ (a' := ?_) ?_ ?_
              rotate_left
              · show Act.put _ (some 25) _ = _
                simp only [Act.put, List.setIfInBounds_toArray, List.set_cons_zero, List.set_cons_succ, i64_w, i32_w]
                rfl
              refine one_ (i := 7) (N := some 28) #[true, true, true, true, true, true, true, true, false, false] rfl rfl (one_of HT_.out (by kernel_rfl)) (by decide) (fun K hK => ?_)
              refine goes_ Try.func61 (by kernel_rfl) rfl #[.int .i64 a0_3] (by rfl) rfl rfl (by (try simp only [List.map_toArray, List.map_cons, List.map_nil]); first | done | rfl | (simp only [List.length_drop, List.length_take]; rfl)) ?_
              with_reducible refine (hanaperref01_Int.calls kj2 a0_3 t293 _ A22.out).mono ?_
              rintro e w28 ⟨v294, rfl, ho0, hb⟩
              refine ⟨_, rfl, ?_⟩
              have n0_ := Aside0.mk (Kd.R_elder' (by (with_reducible repeat (first | apply Kd.R_alloc | apply Kd.R_drewN | apply Kd.R_drew)); exact HO289.out) (Kd.R_base ho0) hb)
              have n1_ := Aside0.mk (Kd.R_elder' (by (with_reducible repeat (first | apply Kd.R_alloc | apply Kd.R_drewN | apply Kd.R_drew)); exact HO292.out) (Kd.R_base ho0) hb)
              have n2_ := Aside0.mk (Kd.R_lower (Kd.R_new' (Kd.R_new' ho0 (Kd.R_lt (by (with_reducible repeat (first | apply Kd.R_alloc | apply Kd.R_drewN | apply Kd.R_drew)); exact HO289.out))) (Kd.R_lt (by (with_reducible repeat (first | apply Kd.R_alloc | apply Kd.R_drewN | apply Kd.R_drew)); exact HO292.out))) (below_size (by repeat (first | (with_reducible first | exact HB.out | apply below_alloc | apply pw_below_drewN | apply below_drew1 | refine below_set ?_ GE276.out) | exact HB.out))))
              have n3_ := Aside0.mk (blk_below (g := gb276) (o := .cells #[.int .i64 a0_0, .string a0_1, .int .i64 a0_2, .int .i64 a0_3, .slice A0_4 l0_4.length c0_4] 40 (0, 0)) (by (with_reducible repeat (first | refine blk_drewN ?_ _ | refine blk_drew ?_ | refine blk_alloc ?_ _)); exact BK276.out) hb)
              have n4_ := Aside0.mk (below_step (by repeat (first | (with_reducible first | exact HB.out | apply below_alloc | apply pw_below_drewN | apply below_drew1 | refine below_set ?_ GE276.out) | exact HB.out)) hb)
              clear HO289
              clear HO292
              clear BK276
              clear HB
              have HO289 := n0_
              have HO292 := n1_
              have HO295 := n2_
              have BK276 := n3_
              have HB := n4_
              clear n0_ n1_ n2_ n3_ n4_
              (try clear hb)
              (try clear hb2)
              (try clear hk)
              (try clear hi)
              (try clear ho0)
              obtain ⟨Ao30, co30, eo30⟩ := Kd.R_slice HO295.out
              (first | subst eo30 | (injection eo30 with f1_ f2_ f3_; have f4_ := f1_.symm; have f5_ := f3_.symm; clear f1_ f2_ f3_; subst f4_; subst f5_))
              refine hK.out _ _ ⟨(blk_cell BK276.out 0).trans rfl, (blk_cell BK276.out 1).trans rfl, (blk_cell BK276.out 2).trans rfl, (blk_cell BK276.out 3).trans rfl, (blk_cell BK276.out 4).trans rfl⟩ (fun hHeld => ?_)
              clear hK K
              refine norm_ (a' := ?_) ?_ ?_
              rotate_left
              · show Act.put _ (some 28) _ = _
                simp only [Act.put, List.setIfInBounds_toArray, List.set_cons_zero, List.set_cons_succ, i64_w, i32_w]
                rfl
              refine one_ (i := 8) (N := some 29) #[true, true, true, true, true, true, true, true, true, false] rfl rfl (one_of HT_.out (by kernel_rfl)) (by decide) (fun K hK => ?_)
              refine Kd.R_append_rows_step (Kd.int .u8) (w0 := w) w.heap.size (by rfl) (.tmp 25) (.tmp 28) 27 5 (.int .u8 0) 1 rfl Try.underlying27 info5 rfl (by decide) (by omega) v291 y290 t293 _ _ _ (fun k_ => some k_ ≠ (.slice Ao27 t287.length co27 : Value).ownBlock ∧ some k_ ≠ (.slice Ao30 t293.length co30 : Value).ownBlock) (fun _ => False) rfl rfl ?aO ?aR (fun _ _ h => h) (fun _ h => h.elim) ?aF ?aB ?aS ?aL ?_
              (case aR => repeat (first | exact (Kd.R_reads' HO295.out).2.2 | (with_reducible refine Kd.C_alloc ?_ _) | (with_reducible refine Kd.C_drewN ?_ _) | (with_reducible refine Kd.C_drew ?_)))
              (case aB => exact (by repeat (first | (with_reducible first | exact HB.out | apply below_alloc | apply pw_below_drewN | apply below_drew1 | refine below_set ?_ GE276.out) | exact HB.out)))
              (case aF => exact (fun k_ hk => ⟨Kd.fresh' (Kd.R_lt (by (with_reducible repeat (first | apply Kd.R_alloc | apply Kd.R_drewN | apply Kd.R_drew)); exact HO289.out)) k_ hk, Kd.fresh' (Kd.R_lt (by (with_reducible repeat (first | apply Kd.R_alloc | apply Kd.R_drewN | apply Kd.R_drew)); exact HO295.out)) k_ hk⟩))
              (case aO => exact (by (with_reducible repeat (first | apply Kd.R_alloc | apply Kd.R_drewN | apply Kd.R_drew)); exact HO292.out))
              (case aS => exact (below_size (by repeat (first | (with_reducible first | exact HB.out | apply below_alloc | apply pw_below_drewN | apply below_drew1 | refine below_set ?_ GE276.out) | exact HB.out))))
              (case aL => have := LMc23.out; omega)
              intro v297 w29 ho hb hg hat
              rw [← Ny296.out] at ho
              have n0_ := Aside0.mk (blk_grown (g := gb276) (o := .cells #[.int .i64 a0_0, .string a0_1, .int .i64 a0_2, .int .i64 a0_3, .slice A0_4 l0_4.length c0_4] 40 (0, 0)) (by (with_reducible repeat (first | refine blk_drewN ?_ _ | refine blk_drew ?_ | refine blk_alloc ?_ _)); exact BK276.out) hg (Kd.R_ne HO292.out BK276.out (by decide)))
              have n1_ := Aside0.mk (Kd.R_after (ok := (fun k_ => some k_ ≠ (.slice Ao30 t293.length co30 : Value).ownBlock)) (by (with_reducible repeat (first | apply Kd.R_alloc | apply Kd.R_drewN | apply Kd.R_drew)); exact Kd.R_mono HO289.out (fun _ hk => ⟨hk.2, hk.1.2⟩)) hg hat)
              have n2_ := Aside0.mk (Kd.R_after (ok := (fun k_ => some k_ ≠ (.slice Ao27 t287.length co27 : Value).ownBlock)) (by (with_reducible repeat (first | apply Kd.R_alloc | apply Kd.R_drewN | apply Kd.R_drew)); exact Kd.R_mono HO295.out (fun _ hk => ⟨hk.1.2, hk.2⟩)) hg hat)
              have n3_ := Aside0.mk (hb)
              have n4_ := Aside0.mk (ho)
              clear BK276
              clear HO289
              clear HO295
              clear HB
              clear HO292
              have BK276 := n0_
              have HO289 := n1_
              have HO295 := n2_
              have HB := n3_
              have HO298 := n4_
              clear n0_ n1_ n2_ n3_ n4_
              clear ho hb hg hat
              refine hK.out _ _ ⟨(blk_cell BK276.out 0).trans rfl, (blk_cell BK276.out 1).trans rfl, (blk_cell BK276.out 2).trans rfl, (blk_cell BK276.out 3).trans rfl, (blk_cell BK276.out 4).trans rfl⟩ (fun hHeld => ?_)
              clear hK K
              refine norm_ (a' := ?_) ?_ ?_
              rotate_left
              · show Act.put _ (some 29) _ = _
                simp only [Act.put, List.setIfInBounds_toArray, List.set_cons_zero, List.set_cons_succ, i64_w, i32_w]
                rfl
              refine pure_ (i := 9) (N := some 3) (v := ?_) (a' := ?_) #[true, true, true, true, true, true, true, true, true, true] rfl rfl (any_of HT_.out (by kernel_rfl)) (fun _ _ _ h => h) (Or.inl ⟨by rfl, ?_⟩) ?_ ?_
              rotate_left
              · intro w'
                go_simp
                with_reducible rfl
              rotate_left
              · simp only [Act.put, List.setIfInBounds_toArray, List.set_cons_zero, List.set_cons_succ, i64_w, i32_w]
                rfl
              refine done_ (done_of HT_.out (by kernel_rfl)) ?_
              try go_wp2
              go_meet
              case rel => exact ⟨_, (y296), H', ⟨by have := HJ2.out; first | omega | exact Nat.le_refl _⟩, ⟨by (with_reducible repeat (first | apply Kd.R_alloc | apply Kd.R_drewN | apply Kd.R_drew)); exact Kd.R_mono HO298.out (fun _ hk => trivial)⟩, ⟨by (with_reducible repeat (first | refine blk_drewN ?_ _ | refine blk_drew ?_ | refine blk_alloc ?_ _)); exact BK276.out⟩, ⟨by repeat (first | (with_reducible first | exact HB.out | apply below_alloc | apply pw_below_drewN | apply below_drew1 | refine below_set ?_ GE276.out) | exact HB.out)⟩⟩
            · rw [if_neg c23] at H
              exact absurd H (by simp)
          · rw [if_neg c21] at H
            exact absurd H (by simp)
        · rw [if_neg c19] at H
          have c19b0 : (a0_0 == 5) = false := beq_eq_false_iff_ne.mpr c19
          have c19b1 : (a0_0 != 5) = true := bne_iff_ne.mpr c19
          (first | rw [c19b0] | (simp only [i64_w, i32_w]; rw [c19b0]) | skip)
          have H' := Aside0.mk H
          clear H
          go_wp2
          go_meet
          case rel => exact ⟨_, (x3_2), H', ⟨by have := HJ2.out; first | omega | exact Nat.le_refl _⟩, ⟨by (with_reducible repeat (first | apply Kd.R_alloc | apply Kd.R_drewN | apply Kd.R_drew)); exact HO_3.out⟩, ⟨by (with_reducible repeat (first | refine blk_drewN ?_ _ | refine blk_drew ?_ | refine blk_alloc ?_ _)); exact BK276.out⟩, ⟨by repeat (first | (with_reducible first | exact HB.out | apply below_alloc | apply pw_below_drewN | apply below_drew1 | refine below_set ?_ GE276.out) | exact HB.out)⟩⟩
      case rest =>
        clear HC17
        try clear c1
        try clear c2
        try clear p2
        try clear c6
        try clear c9
        try clear c11
        try clear c19
        try clear c19b0
        try clear c19b1
        try clear c21
        try clear c23
        try clear hcz12_0
        try clear hcz12_1
        try clear hcz12_2
        try clear hcz12_3
        try clear hcz12_4
        try clear hcz18_0
        try clear hcz18_1
        try clear hcz18_2
        try clear hcz18_3
        try clear hcz18_4
        try clear hcz5_0
        try clear hcz5_1
        try clear hcz5_2
        try clear hcz5_3
        try clear hcz5_4
        try clear hcz8_0
        try clear hcz8_1
        try clear hcz8_2
        try clear hcz8_3
        try clear hcz8_4
        try clear hfz12_0
        try clear hfz12_1
        try clear hfz12_2
        try clear hfz12_3
        try clear hfz12_4
        try clear hfz18_0
        try clear hfz18_1
        try clear hfz18_2
        try clear hfz18_3
        try clear hfz18_4
        try clear hfz5_0
        try clear hfz5_1
        try clear hfz5_2
        try clear hfz5_3
        try clear hfz5_4
        try clear hfz8_0
        try clear hfz8_1
        try clear hfz8_2
        try clear hfz8_3
        try clear hfz8_4
        try clear p2
        obtain ⟨kq, x3_16, HA, HJ16, HO_3, BK276, HB⟩ := hcut
        cases kq with
        | zero => exact absurd HA.out (by simp [hanaperref20_bytes.j1])
        | succ kj16 =>
          have H := HA.out
          clear HA
          simp only [hanaperref20_bytes.j1] at H
          replace H := Option.bind_eq_some_iff.mp H
          obtain ⟨t299, A310, H⟩ := H
          replace H : (if t299 = true then ((hanaperref01_Int.f kj16 (l0_4.length : Int)).bind fun t300 => (if x3_16.length + t300.length < 140737488355328 then (hanaperref20_bytes.j2 kj16 (x3_16 ++ t300) a0_0 a0_1 a0_2 a0_3 l0_4) else (none))) else (hanaperref20_bytes.j2 kj16 x3_16 a0_0 a0_1 a0_2 a0_3 l0_4)) = some r := H
          have A31 := Aside0.mk A310
          clear A310
          have HC32 := Aside0.mk H
          clear H
          have hcz33_0 : wc.cell? ⟨gb276, 0, none⟩ = some (.int .i64 a0_0) := (blk_cell BK276.out 0).trans rfl
          have hcz33_1 : wc.cell? ⟨gb276, 1, none⟩ = some (.string a0_1) := (blk_cell BK276.out 1).trans rfl
          have hcz33_2 : wc.cell? ⟨gb276, 2, none⟩ = some (.int .i64 a0_2) := (blk_cell BK276.out 2).trans rfl
          have hcz33_3 : wc.cell? ⟨gb276, 3, none⟩ = some (.int .i64 a0_3) := (blk_cell BK276.out 3).trans rfl
          have hcz33_4 : wc.cell? ⟨gb276, 4, none⟩ = some (.slice A0_4 l0_4.length c0_4) := (blk_cell BK276.out 4).trans rfl
          have hfz33_0 := blk_frozen BK276.out 0
          have hfz33_1 := blk_frozen BK276.out 1
          have hfz33_2 := blk_frozen BK276.out 2
          have hfz33_3 := blk_frozen BK276.out 3
          have hfz33_4 := blk_frozen BK276.out 4
          go_upto_if 32 with (first | ((with_reducible refine gate_callee (f := 74) rfl ?_); refine goesL_ (some 32) rfl rfl Try.func74 (by kernel_rfl) rfl #[.int .i64 a0_0] rfl (by (try simp only [List.map_toArray, List.map_cons, List.map_nil]); first | done | rfl | (simp only [List.length_drop, List.length_take]; rfl)) ?_; (with_reducible refine (hanaperref20_many.calls a0_0 t299 _ A31.out).mono ?_); rintro e w' ⟨rfl, ⟨nd, rfl⟩⟩; refine ⟨_, rfl, ?_⟩))
          (try simp only [Act.put, List.setIfInBounds_toArray, List.set_cons_zero, List.set_cons_succ])
          go_cut [3] (fun v3 wc => ∃ (kq : Nat) (x3_31 : List Int), Aside0 (hanaperref20_bytes.j2 kq x3_31 a0_0 a0_1 a0_2 a0_3 l0_4 = some r) ∧ Aside0 (kq ≤ kj16) ∧ Aside0 (Kd.R (Kd.int .u8) 5 wc w.heap.size (fun _ => True) v3 x3_31) ∧ Aside0 (wc.heap[gb276]? = some (.cells #[.int .i64 a0_0, .string a0_1, .int .i64 a0_2, .int .i64 a0_3, (.slice A0_4 l0_4.length c0_4)] 40 (0, 0))) ∧ Aside0 (Below w.heap.size w wc))
          case first =>
            have H := HC32.out
            clear HC32
            by_cases c34 : t299 = true
            · subst c34
              have H1 : ((hanaperref01_Int.f kj16 (l0_4.length : Int)).bind fun t300 => (if x3_16.length + t300.length < 140737488355328 then (hanaperref20_bytes.j2 kj16 (x3_16 ++ t300) a0_0 a0_1 a0_2 a0_3 l0_4) else (none))) = some r := by rw [if_pos rfl] at H; exact H
              clear H
              have H := H1
              clear H1
              replace H := Option.bind_eq_some_iff.mp H
              obtain ⟨t300, A350, H⟩ := H
              replace H : (if x3_16.length + t300.length < 140737488355328 then (hanaperref20_bytes.j2 kj16 (x3_16 ++ t300) a0_0 a0_1 a0_2 a0_3 l0_4) else (none)) = some r := H
              have A35 := Aside0.mk A350
              clear A350
              by_cases c36 : x3_16.length + t300.length < 140737488355328
              · rw [if_pos c36] at H
                have LMc36 := Aside0.mk c36
                clear c36
                obtain ⟨y303, hy303⟩ : ∃ y_ : List Int, y_ = (x3_16 ++ t300) := ⟨_, rfl⟩
                replace H : (hanaperref20_bytes.j2 kj16 y303 a0_0 a0_1 a0_2 a0_3 l0_4) = some r := by first | (rw [hy303]; with_reducible exact H) | (have H2_ := (Option.bind_some _ _).symm.trans H; rw [hy303]; with_reducible exact H2_) | (have H2_ := (Option.bind_some _ _).symm.trans H; with_reducible exact H2_) | with_reducible exact H | (rw [hy303]; exact H) | exact H
                have Ny303 := Aside0.mk hy303
                clear hy303
                have H' := Aside0.mk H
                clear H
                have hcz37_0 : wc.cell? ⟨gb276, 0, none⟩ = some (.int .i64 a0_0) := (blk_cell BK276.out 0).trans rfl
                have hcz37_1 : wc.cell? ⟨gb276, 1, none⟩ = some (.string a0_1) := (blk_cell BK276.out 1).trans rfl
                have hcz37_2 : wc.cell? ⟨gb276, 2, none⟩ = some (.int .i64 a0_2) := (blk_cell BK276.out 2).trans rfl
                have hcz37_3 : wc.cell? ⟨gb276, 3, none⟩ = some (.int .i64 a0_3) := (blk_cell BK276.out 3).trans rfl
                have hcz37_4 : wc.cell? ⟨gb276, 4, none⟩ = some (.slice A0_4 l0_4.length c0_4) := (blk_cell BK276.out 4).trans rfl
                have hfz37_0 := blk_frozen BK276.out 0
                have hfz37_1 := blk_frozen BK276.out 1
                have hfz37_2 := blk_frozen BK276.out 2
                have hfz37_3 := blk_frozen BK276.out 3
                have hfz37_4 := blk_frozen BK276.out 4
                go_wp2_with (first | ((with_reducible refine gate_callee (f := 61) rfl ?_); refine goesL_ (some 37) rfl rfl Try.func61 (by kernel_rfl) rfl #[.int .i64 (l0_4.length : Int)] rfl (by (try simp only [List.map_toArray, List.map_cons, List.map_nil]); first | done | rfl | (simp only [List.length_drop, List.length_take]; rfl)) ?_; (with_reducible refine (hanaperref01_Int.calls kj16 (l0_4.length : Int) t300 _ A35.out).mono ?_); rintro e w38 ⟨v301, rfl, ho0, hb⟩; refine ⟨_, rfl, ?_⟩; have n0_ := Aside0.mk (Kd.R_elder' (by (with_reducible repeat (first | apply Kd.R_alloc | apply Kd.R_drewN | apply Kd.R_drew)); exact HO_3.out) (Kd.R_base ho0) hb); have n1_ := Aside0.mk (Kd.R_lower (Kd.R_new' ho0 (Kd.R_lt (by (with_reducible repeat (first | apply Kd.R_alloc | apply Kd.R_drewN | apply Kd.R_drew)); exact HO_3.out))) (below_size (by repeat (first | (with_reducible first | exact HB.out | apply below_alloc | apply pw_below_drewN | apply below_drew1 | refine below_set ?_ GE276.out) | exact HB.out)))); have n2_ := Aside0.mk (blk_below (g := gb276) (o := .cells #[.int .i64 a0_0, .string a0_1, .int .i64 a0_2, .int .i64 a0_3, .slice A0_4 l0_4.length c0_4] 40 (0, 0)) (by (with_reducible repeat (first | refine blk_drewN ?_ _ | refine blk_drew ?_ | refine blk_alloc ?_ _)); exact BK276.out) hb); have n3_ := Aside0.mk (below_step (by repeat (first | (with_reducible first | exact HB.out | apply below_alloc | apply pw_below_drewN | apply below_drew1 | refine below_set ?_ GE276.out) | exact HB.out)) hb); clear HO_3; clear BK276; clear HB; have HO_3 := n0_; have HO302 := n1_; have BK276 := n2_; have HB := n3_; clear n0_ n1_ n2_ n3_; (try clear hb); (try clear hb2); (try clear hk); (try clear hi); (try clear ho0); obtain ⟨Ao40, co40, eo40⟩ := Kd.R_slice HO302.out; subst eo40) | ((with_reducible refine gate_builtin (b := .append) (xs := #[.tmp 33, .tmp 37]) rfl ?_); at_builtin; refine Kd.R_append_rows (Kd.int .u8) (w0 := w) w.heap.size rfl (.tmp 33) (.tmp 37) 27 5 (.int .u8 0) 1 rfl Try.underlying27 info5 rfl (by decide) (by omega) u3 x3_16 t300 _ _ _ (fun k_ => some k_ ≠ (.slice Ao40 t300.length co40 : Value).ownBlock) (fun _ => False) rfl rfl ?aO ?aR (fun _ _ h => h) (fun _ h => h.elim) ?aF ?aB ?aS ?aL ?_; (case aR => repeat (first | exact (Kd.R_reads' HO302.out).2.2 | (with_reducible refine Kd.C_alloc ?_ _) | (with_reducible refine Kd.C_drewN ?_ _) | (with_reducible refine Kd.C_drew ?_))); (case aB => exact (by repeat (first | (with_reducible first | exact HB.out | apply below_alloc | apply pw_below_drewN | apply below_drew1 | refine below_set ?_ GE276.out) | exact HB.out))); (case aF => exact (fun k_ hk => Kd.fresh' (Kd.R_lt (by (with_reducible repeat (first | apply Kd.R_alloc | apply Kd.R_drewN | apply Kd.R_drew)); exact HO302.out)) k_ hk)); (case aO => exact (by (with_reducible repeat (first | apply Kd.R_alloc | apply Kd.R_drewN | apply Kd.R_drew)); exact Kd.R_mono HO_3.out (fun _ hk => hk.2))); (case aS => exact (below_size (by repeat (first | (with_reducible first | exact HB.out | apply below_alloc | apply pw_below_drewN | apply below_drew1 | refine below_set ?_ GE276.out) | exact HB.out)))); (case aL => have := LMc36.out; omega); intro v304 w39 ho hb hg hat; rw [← Ny303.out] at ho; have n0_ := Aside0.mk (blk_grown (g := gb276) (o := .cells #[.int .i64 a0_0, .string a0_1, .int .i64 a0_2, .int .i64 a0_3, .slice A0_4 l0_4.length c0_4] 40 (0, 0)) (by (with_reducible repeat (first | refine blk_drewN ?_ _ | refine blk_drew ?_ | refine blk_alloc ?_ _)); exact BK276.out) hg (Kd.R_ne HO_3.out BK276.out (by decide))); have n1_ := Aside0.mk (Kd.R_after (ok := (fun _ => True)) (by (with_reducible repeat (first | apply Kd.R_alloc | apply Kd.R_drewN | apply Kd.R_drew)); exact HO302.out) hg hat); have n2_ := Aside0.mk (hb); have n3_ := Aside0.mk (ho); clear BK276; clear HO302; clear HB; clear HO_3; have BK276 := n0_; have HO302 := n1_; have HB := n2_; have HO305 := n3_; clear n0_ n1_ n2_ n3_; clear ho hb hg hat))
                go_meet
                case rel => exact ⟨_, (y303), H', ⟨by have := HJ2.out; have := HJ16.out; first | omega | exact Nat.le_refl _⟩, ⟨by (with_reducible repeat (first | apply Kd.R_alloc | apply Kd.R_drewN | apply Kd.R_drew)); exact Kd.R_mono HO305.out (fun _ hk => trivial)⟩, ⟨by (with_reducible repeat (first | refine blk_drewN ?_ _ | refine blk_drew ?_ | refine blk_alloc ?_ _)); exact BK276.out⟩, ⟨by repeat (first | (with_reducible first | exact HB.out | apply below_alloc | apply pw_below_drewN | apply below_drew1 | refine below_set ?_ GE276.out) | exact HB.out)⟩⟩
              · rw [if_neg c36] at H
                exact absurd H (by simp)
            · replace c34 := Bool.eq_false_iff.mpr c34
              subst c34
              have H1 : (hanaperref20_bytes.j2 kj16 x3_16 a0_0 a0_1 a0_2 a0_3 l0_4) = some r := by rw [if_neg (show ¬ (false = true) by decide)] at H; exact H
              clear H
              have H := H1
              clear H1
              have H' := Aside0.mk H
              clear H
              go_wp2
              go_meet
              case rel => exact ⟨_, (x3_16), H', ⟨by have := HJ2.out; have := HJ16.out; first | omega | exact Nat.le_refl _⟩, ⟨by (with_reducible repeat (first | apply Kd.R_alloc | apply Kd.R_drewN | apply Kd.R_drew)); exact HO_3.out⟩, ⟨by (with_reducible repeat (first | refine blk_drewN ?_ _ | refine blk_drew ?_ | refine blk_alloc ?_ _)); exact BK276.out⟩, ⟨by repeat (first | (with_reducible first | exact HB.out | apply below_alloc | apply pw_below_drewN | apply below_drew1 | refine below_set ?_ GE276.out) | exact HB.out)⟩⟩
          case rest =>
            clear HC32
            try clear c1
            try clear c2
            try clear p2
            try clear c3
            try clear c6
            try clear c7
            try clear c9
            try clear c11
            try clear c19
            try clear c19b0
            try clear c19b1
            try clear c21
            try clear c23
            try clear c34
            try clear c36
            try clear hcz12_0
            try clear hcz12_1
            try clear hcz12_2
            try clear hcz12_3
            try clear hcz12_4
            try clear hcz18_0
            try clear hcz18_1
            try clear hcz18_2
            try clear hcz18_3
            try clear hcz18_4
            try clear hcz33_0
            try clear hcz33_1
            try clear hcz33_2
            try clear hcz33_3
            try clear hcz33_4
            try clear hcz37_0
            try clear hcz37_1
            try clear hcz37_2
            try clear hcz37_3
            try clear hcz37_4
            try clear hcz5_0
            try clear hcz5_1
            try clear hcz5_2
            try clear hcz5_3
            try clear hcz5_4
            try clear hcz8_0
            try clear hcz8_1
            try clear hcz8_2
            try clear hcz8_3
            try clear hcz8_4
            try clear hfz12_0
            try clear hfz12_1
            try clear hfz12_2
            try clear hfz12_3
            try clear hfz12_4
            try clear hfz18_0
            try clear hfz18_1
            try clear hfz18_2
            try clear hfz18_3
            try clear hfz18_4
            try clear hfz33_0
            try clear hfz33_1
            try clear hfz33_2
            try clear hfz33_3
            try clear hfz33_4
            try clear hfz37_0
            try clear hfz37_1
            try clear hfz37_2
            try clear hfz37_3
            try clear hfz37_4
            try clear hfz5_0
            try clear hfz5_1
            try clear hfz5_2
            try clear hfz5_3
            try clear hfz5_4
            try clear hfz8_0
            try clear hfz8_1
            try clear hfz8_2
            try clear hfz8_3
            try clear hfz8_4
            try clear p2
            obtain ⟨kq, x3_31, HA, HJ31, HO_3, BK276, HB⟩ := hcut
            cases kq with
            | zero => exact absurd HA.out (by simp [hanaperref20_bytes.j2])
            | succ kj31 =>
              have H := HA.out
              clear HA
              simp only [hanaperref20_bytes.j2] at H
              have H' := Aside0.mk H
              clear H
              go_wp2
              go_loopg [3, 4] kj31 (fun kq v3 v4 w' => ∃ (x3_4 : List Int) (x4_4 : Int), v4 = .int .i64 x4_4 ∧ Aside0 (hanaperref20_bytes.l0 kq x3_4 x4_4 a0_0 a0_1 a0_2 a0_3 l0_4 = some r) ∧ Aside0 (kq ≤ kj31) ∧ Aside0 (Kd.R (Kd.int .u8) 5 w' w.heap.size (fun _ => True) v3 x3_4) ∧ Aside0 (w'.heap[gb276]? = some (.cells #[.int .i64 a0_0, .string a0_1, .int .i64 a0_2, .int .i64 a0_3, (.slice A0_4 l0_4.length c0_4)] 40 (0, 0))) ∧ Aside0 (Below w.heap.size w w'))
              case atStart => exact ⟨(x3_31), (0), (by first | rfl | (simp; done) | (simp [*]; done)), H', ⟨Nat.le_refl _⟩, ⟨by (with_reducible repeat (first | apply Kd.R_alloc | apply Kd.R_drewN | apply Kd.R_drew)); exact HO_3.out⟩, ⟨by (with_reducible repeat (first | refine blk_drewN ?_ _ | refine blk_drew ?_ | refine blk_alloc ?_ _)); exact BK276.out⟩, ⟨by repeat (first | (with_reducible first | exact HB.out | apply below_alloc | apply pw_below_drewN | apply below_drew1 | refine below_set ?_ GE276.out) | exact HB.out)⟩⟩
              case round =>
                clear H'
                try clear c1
                try clear c2
                try clear p2
                try clear c3
                try clear c6
                try clear c7
                try clear c9
                try clear c11
                try clear c19
                try clear c19b0
                try clear c19b1
                try clear c21
                try clear c23
                try clear c34
                try clear c36
                try clear hcz12_0
                try clear hcz12_1
                try clear hcz12_2
                try clear hcz12_3
                try clear hcz12_4
                try clear hcz18_0
                try clear hcz18_1
                try clear hcz18_2
                try clear hcz18_3
                try clear hcz18_4
                try clear hcz33_0
                try clear hcz33_1
                try clear hcz33_2
                try clear hcz33_3
                try clear hcz33_4
                try clear hcz37_0
                try clear hcz37_1
                try clear hcz37_2
                try clear hcz37_3
                try clear hcz37_4
                try clear hcz5_0
                try clear hcz5_1
                try clear hcz5_2
                try clear hcz5_3
                try clear hcz5_4
                try clear hcz8_0
                try clear hcz8_1
                try clear hcz8_2
                try clear hcz8_3
                try clear hcz8_4
                try clear hfz12_0
                try clear hfz12_1
                try clear hfz12_2
                try clear hfz12_3
                try clear hfz12_4
                try clear hfz18_0
                try clear hfz18_1
                try clear hfz18_2
                try clear hfz18_3
                try clear hfz18_4
                try clear hfz33_0
                try clear hfz33_1
                try clear hfz33_2
                try clear hfz33_3
                try clear hfz33_4
                try clear hfz37_0
                try clear hfz37_1
                try clear hfz37_2
                try clear hfz37_3
                try clear hfz37_4
                try clear hfz5_0
                try clear hfz5_1
                try clear hfz5_2
                try clear hfz5_3
                try clear hfz5_4
                try clear hfz8_0
                try clear hfz8_1
                try clear hfz8_2
                try clear hfz8_3
                try clear hfz8_4
                try clear p2
                obtain ⟨x3_4, x4_4, rfl, HA, HK4, HO_3, BK276, HB⟩ := hrel
                cases gk with
                | zero => exact absurd HA.out (by simp [hanaperref20_bytes.l0])
                | succ k4 =>
                  have H := HA.out
                  clear HA
                  simp only [hanaperref20_bytes.l0] at H
                  by_cases c41 : x4_4 < (l0_4.length : Int)
                  · rw [if_pos c41] at H
                    have c41b0 : decide (x4_4 < (l0_4.length : Int)) = true := decide_eq_true c41
                    clear c41
                    by_cases c42 : 0 ≤ x4_4
                    · rw [if_pos c42] at H
                      have c42b0 : decide (0 ≤ x4_4) = true := decide_eq_true c42
                      clear c42
                      replace H := Option.bind_eq_some_iff.mp H
                      obtain ⟨t307, A430, H⟩ := H
                      replace H : (if x3_4.length + t307.length < 140737488355328 then (hanaperref20_bytes.l0 k4 (x3_4 ++ t307) (wrap64 (x4_4 + 1)) a0_0 a0_1 a0_2 a0_3 l0_4) else (none)) = some r := H
                      have A43 := Aside0.mk A430
                      clear A430
                      by_cases c44 : x3_4.length + t307.length < 140737488355328
                      · rw [if_pos c44] at H
                        have LMc44 := Aside0.mk c44
                        clear c44
                        obtain ⟨y310, hy310⟩ : ∃ y_ : List Int, y_ = (x3_4 ++ t307) := ⟨_, rfl⟩
                        replace H : (hanaperref20_bytes.l0 k4 y310 (wrap64 (x4_4 + 1)) a0_0 a0_1 a0_2 a0_3 l0_4) = some r := by first | (rw [hy310]; with_reducible exact H) | (have H2_ := (Option.bind_some _ _).symm.trans H; rw [hy310]; with_reducible exact H2_) | (have H2_ := (Option.bind_some _ _).symm.trans H; with_reducible exact H2_) | with_reducible exact H | (rw [hy310]; exact H) | exact H
                        have Ny310 := Aside0.mk hy310
                        clear hy310
                        have H' := Aside0.mk H
                        clear H
                        have hcz45_0 : wr.cell? ⟨gb276, 0, none⟩ = some (.int .i64 a0_0) := (blk_cell BK276.out 0).trans rfl
                        have hcz45_1 : wr.cell? ⟨gb276, 1, none⟩ = some (.string a0_1) := (blk_cell BK276.out 1).trans rfl
                        have hcz45_2 : wr.cell? ⟨gb276, 2, none⟩ = some (.int .i64 a0_2) := (blk_cell BK276.out 2).trans rfl
                        have hcz45_3 : wr.cell? ⟨gb276, 3, none⟩ = some (.int .i64 a0_3) := (blk_cell BK276.out 3).trans rfl
                        have hcz45_4 : wr.cell? ⟨gb276, 4, none⟩ = some (.slice A0_4 l0_4.length c0_4) := (blk_cell BK276.out 4).trans rfl
                        have hfz45_0 := blk_frozen BK276.out 0
                        have hfz45_1 := blk_frozen BK276.out 1
                        have hfz45_2 := blk_frozen BK276.out 2
                        have hfz45_3 := blk_frozen BK276.out 3
                        have hfz45_4 := blk_frozen BK276.out 4
                        have p306 : 0 ≤ (x4_4 : Int) := of_decide_eq_true (by first | (with_reducible assumption) | assumption)
                        have q306 : x4_4 < (l0_4.length : Int) := of_decide_eq_true (by first | (with_reducible assumption) | assumption)
                        obtain ⟨ad306, A306_4, c306_4, e306, hx306_0, hx306_1, hx306_2, hx306_3, hx306_4, hl306_4, hi306_4⟩ := at_T40 HR0_4.out x4_4 p306 q306
                        cases e306
                        replace hx306_0 := (HB.out.cell (World.block_lt_of_cell? w _ hx306_0)).trans hx306_0
                        replace hx306_1 := (HB.out.cell (World.block_lt_of_cell? w _ hx306_1)).trans hx306_1
                        replace hx306_2 := (HB.out.cell (World.block_lt_of_cell? w _ hx306_2)).trans hx306_2
                        replace hx306_3 := (HB.out.cell (World.block_lt_of_cell? w _ hx306_3)).trans hx306_3
                        replace hx306_4 := (HB.out.cell (World.block_lt_of_cell? w _ hx306_4)).trans hx306_4
                        have HR306_4 := Aside0.mk hi306_4
                        have HC306_4 := Aside0.mk hl306_4
                        clear hi306_4 hl306_4
                        replace p306 := eq_true p306
                        replace q306 := eq_true q306
                        go_wp2_with (first | ((with_reducible refine gate_callee (f := 69) rfl ?_); refine goesL_ (some 52) rfl rfl Try.func69 (by kernel_rfl) rfl #[.agg #[.int .i64 ((rd_T40 l0_4 x4_4).f0), .string ((rd_T40 l0_4 x4_4).f1), .int .i64 ((rd_T40 l0_4 x4_4).f2), .int .i64 ((rd_T40 l0_4 x4_4).f3), .slice A306_4 ((rd_T40 l0_4 x4_4).f4).length c306_4]] rfl (by (try simp only [List.map_toArray, List.map_cons, List.map_nil]); first | done | rfl | (simp only [List.length_drop, List.length_take]; rfl)) ?_; (with_reducible refine (ih k4 (by have := HJ2.out; have := HJ16.out; have := HJ31.out; have := HK4.out; omega) ((rd_T40 l0_4 x4_4).f0) ((rd_T40 l0_4 x4_4).f1) ((rd_T40 l0_4 x4_4).f2) ((rd_T40 l0_4 x4_4).f3) _ _ ((rd_T40 l0_4 x4_4).f4) t307 _ ?side1 ?side2 A43.out).mono ?_); (case side1 => repeat (first | exact (Kd.C_below HR306_4.out HB.out) | (with_reducible refine Kd.C_alloc ?_ _) | (with_reducible refine Kd.C_drewN ?_ _) | (with_reducible refine Kd.C_drew ?_))); (case side2 => exact HC306_4.out); rintro e w46 ⟨v308, rfl, ho0, hb⟩; refine ⟨_, rfl, ?_⟩; have n0_ := Aside0.mk (Kd.R_elder' (by (with_reducible repeat (first | apply Kd.R_alloc | apply Kd.R_drewN | apply Kd.R_drew)); exact HO_3.out) (Kd.R_base ho0) hb); have n1_ := Aside0.mk (Kd.R_lower (Kd.R_new' ho0 (Kd.R_lt (by (with_reducible repeat (first | apply Kd.R_alloc | apply Kd.R_drewN | apply Kd.R_drew)); exact HO_3.out))) (below_size (by repeat (first | (with_reducible first | exact HB.out | apply below_alloc | apply pw_below_drewN | apply below_drew1 | refine below_set ?_ GE276.out) | exact HB.out)))); have n2_ := Aside0.mk (blk_below (g := gb276) (o := .cells #[.int .i64 a0_0, .string a0_1, .int .i64 a0_2, .int .i64 a0_3, .slice (some ad306) l0_4.length c0_4] 40 (0, 0)) (by (with_reducible repeat (first | refine blk_drewN ?_ _ | refine blk_drew ?_ | refine blk_alloc ?_ _)); exact BK276.out) hb); have n3_ := Aside0.mk (below_step (by repeat (first | (with_reducible first | exact HB.out | apply below_alloc | apply pw_below_drewN | apply below_drew1 | refine below_set ?_ GE276.out) | exact HB.out)) hb); clear HO_3; clear BK276; clear HB; have HO_3 := n0_; have HO309 := n1_; have BK276 := n2_; have HB := n3_; clear n0_ n1_ n2_ n3_; (try clear hb); (try clear hb2); (try clear hk); (try clear hi); (try clear ho0); obtain ⟨Ao48, co48, eo48⟩ := Kd.R_slice HO309.out; subst eo48) | ((with_reducible refine gate_builtin (b := .append) (xs := #[.tmp 46, .tmp 52]) rfl ?_); at_builtin; refine Kd.R_append_rows (Kd.int .u8) (w0 := w) w.heap.size rfl (.tmp 46) (.tmp 52) 27 5 (.int .u8 0) 1 rfl Try.underlying27 info5 rfl (by decide) (by omega) u3 x3_4 t307 _ _ _ (fun k_ => some k_ ≠ (.slice Ao48 t307.length co48 : Value).ownBlock) (fun _ => False) rfl rfl ?aO ?aR (fun _ _ h => h) (fun _ h => h.elim) ?aF ?aB ?aS ?aL ?_; (case aR => repeat (first | exact (Kd.R_reads' HO309.out).2.2 | (with_reducible refine Kd.C_alloc ?_ _) | (with_reducible refine Kd.C_drewN ?_ _) | (with_reducible refine Kd.C_drew ?_))); (case aB => exact (by repeat (first | (with_reducible first | exact HB.out | apply below_alloc | apply pw_below_drewN | apply below_drew1 | refine below_set ?_ GE276.out) | exact HB.out))); (case aF => exact (fun k_ hk => Kd.fresh' (Kd.R_lt (by (with_reducible repeat (first | apply Kd.R_alloc | apply Kd.R_drewN | apply Kd.R_drew)); exact HO309.out)) k_ hk)); (case aO => exact (by (with_reducible repeat (first | apply Kd.R_alloc | apply Kd.R_drewN | apply Kd.R_drew)); exact Kd.R_mono HO_3.out (fun _ hk => hk.2))); (case aS => exact (below_size (by repeat (first | (with_reducible first | exact HB.out | apply below_alloc | apply pw_below_drewN | apply below_drew1 | refine below_set ?_ GE276.out) | exact HB.out)))); (case aL => have := LMc44.out; omega); intro v311 w47 ho hb hg hat; rw [← Ny310.out] at ho; have n0_ := Aside0.mk (blk_grown (g := gb276) (o := .cells #[.int .i64 a0_0, .string a0_1, .int .i64 a0_2, .int .i64 a0_3, .slice (some ad306) l0_4.length c0_4] 40 (0, 0)) (by (with_reducible repeat (first | refine blk_drewN ?_ _ | refine blk_drew ?_ | refine blk_alloc ?_ _)); exact BK276.out) hg (Kd.R_ne HO_3.out BK276.out (by decide))); have n1_ := Aside0.mk (Kd.R_after (ok := (fun _ => True)) (by (with_reducible repeat (first | apply Kd.R_alloc | apply Kd.R_drewN | apply Kd.R_drew)); exact HO309.out) hg hat); have n2_ := Aside0.mk (hb); have n3_ := Aside0.mk (ho); clear BK276; clear HO309; clear HB; clear HO_3; have BK276 := n0_; have HO309 := n1_; have HB := n2_; have HO312 := n3_; clear n0_ n1_ n2_ n3_; clear ho hb hg hat))
                        go_roundg k4
                        case measure => have := HJ2.out; have := HJ16.out; have := HJ31.out; have := HK4.out; omega
                        case rel => exact ⟨(y310), (wrap64 (x4_4 + 1)), (by first | rfl | (simp; done) | (simp [*]; done)), H', ⟨by have := HJ2.out; have := HJ16.out; have := HJ31.out; have := HK4.out; omega⟩, ⟨by (with_reducible repeat (first | apply Kd.R_alloc | apply Kd.R_drewN | apply Kd.R_drew)); exact Kd.R_mono HO312.out (fun _ hk => trivial)⟩, ⟨by (with_reducible repeat (first | refine blk_drewN ?_ _ | refine blk_drew ?_ | refine blk_alloc ?_ _)); exact BK276.out⟩, ⟨by repeat (first | (with_reducible first | exact HB.out | apply below_alloc | apply pw_below_drewN | apply below_drew1 | refine below_set ?_ GE276.out) | exact HB.out)⟩⟩
                      · rw [if_neg c44] at H
                        exact absurd H (by simp)
                    · rw [if_neg c42] at H
                      exact absurd H (by simp)
                  · rw [if_neg c41] at H
                    have c41b0 : decide (x4_4 < (l0_4.length : Int)) = false := decide_eq_false c41
                    clear c41
                    obtain rfl := Option.some.inj H
                    have hcz49_0 : wr.cell? ⟨gb276, 0, none⟩ = some (.int .i64 a0_0) := (blk_cell BK276.out 0).trans rfl
                    have hcz49_1 : wr.cell? ⟨gb276, 1, none⟩ = some (.string a0_1) := (blk_cell BK276.out 1).trans rfl
                    have hcz49_2 : wr.cell? ⟨gb276, 2, none⟩ = some (.int .i64 a0_2) := (blk_cell BK276.out 2).trans rfl
                    have hcz49_3 : wr.cell? ⟨gb276, 3, none⟩ = some (.int .i64 a0_3) := (blk_cell BK276.out 3).trans rfl
                    have hcz49_4 : wr.cell? ⟨gb276, 4, none⟩ = some (.slice A0_4 l0_4.length c0_4) := (blk_cell BK276.out 4).trans rfl
                    have hfz49_0 := blk_frozen BK276.out 0
                    have hfz49_1 := blk_frozen BK276.out 1
                    have hfz49_2 := blk_frozen BK276.out 2
                    have hfz49_3 := blk_frozen BK276.out 3
                    have hfz49_4 := blk_frozen BK276.out 4
                    go_wp2
                    go_ret
                    exact ⟨_, by first | rfl | (simp [errW_none, errW_some] <;> rfl) | (simp [*, errW_none, errW_some] <;> rfl), by (with_reducible repeat (first | apply Kd.R_alloc | apply Kd.R_drewN | apply Kd.R_drew)); exact HO_3.out, by repeat (first | (with_reducible first | exact HB.out | apply below_alloc | apply pw_below_drewN | apply below_drew1 | refine below_set ?_ GE276.out) | exact HB.out)⟩

end Go.Proofs.Ytgdpabedlghiaaa.PZ
-- printed for this claim by a program (pall.sh)
namespace Go.Proofs.Ytgdpabedlghiaaa.PZ
open Go.RowKit Go.Proofs.YtgdpabedlghiaaaW.PrintWords Go.Proofs.YtgdpabedlghiaaaW.PrintLast Go.Proofs.YtgdpabedlghiaaaW.PrintMore
attribute [local go_sem] max2_int min2_int max_two min_two max_three min_three max_four min_four   -- for this text's walks alone
set_option linter.unusedVariables false
set_option linter.unusedSimpArgs false

/-! ### hanaperref20_Put: function 26 -/
def hanaperref20_Put.f (k : Nat) (a0_0 : Int) (a0_1 : ByteArray) (a0_2 : Int) (a0_3 : Int) (l0_4 : List (S40)) : Option (List Int × Int) := (hanaperref20_May.f k a0_0 a0_1 a0_2 a0_3 l0_4).bind fun t314 => (if t314 = true then ((hanaperref20_bytes.f k a0_0 a0_1 a0_2 a0_3 l0_4).bind fun t315 => (some (t315, 0))) else (some (([] : List Int), 1)))
theorem hanaperref20_Put.mono : ∀ a0 a1 a2 a3 a4 k, LeO (hanaperref20_Put.f k a0 a1 a2 a3 a4) (hanaperref20_Put.f (k + 1) a0 a1 a2 a3 a4) := by
  intro a0 a1 a2 a3 a4 k
  unfold hanaperref20_Put.f
  repeat' first
      | (with_reducible exact hanaperref20_May.mono _ _ _ _ _ _)
      | (with_reducible exact hanaperref20_bytes.mono _ _ _ _ _ _)
      | (with_reducible exact LeO.refl _)
      | (with_reducible exact LeO.none _)
      | (with_reducible refine LeO.ite ?_ ?_)
      | (with_reducible refine LeO.bind ?_ (fun _ => ?_))
      | exact hanaperref20_May.mono _ _ _ _ _ _
      | exact hanaperref20_bytes.mono _ _ _ _ _ _
      | exact LeO.none _
      | refine LeO.ite ?_ ?_
      | refine LeO.bind ?_ (fun _ => ?_)
set_option maxHeartbeats 8000000 in
set_option maxRecDepth 100000 in
theorem hanaperref20_Put.calls (k : Nat) (a0_0 : Int) (a0_1 : ByteArray) (a0_2 : Int) (a0_3 : Int) (A0_4 : Option Addr) (c0_4 : Nat) (l0_4 : List (S40)) (r1 : List Int) (r2 : Int) (w : World) (hr0_4 : Kd.C k40 w A0_4 l0_4.length l0_4) (hc0_4 : l0_4.length ≤ c0_4) (h : hanaperref20_Put.f k a0_0 a0_1 a0_2 a0_3 l0_4 = some (r1, r2)) :
    Calls Try.prog 26 #[.agg #[.int .i64 a0_0, .string a0_1, .int .i64 a0_2, .int .i64 a0_3, .slice A0_4 l0_4.length c0_4]] w fun e w' => ∃ v0_ : Value, e = .returned (.tuple #[v0_, .int .i64 r2]) ∧ Kd.R (Kd.int .u8) 5 w' w.heap.size (fun _ => True) v0_ r1 ∧ Below w.heap.size w w' := by
  have hu40 := Try.underlying40
  have HR0_4 := Aside0.mk hr0_4
  have HC0_4 := Aside0.mk hc0_4
  clear hr0_4 hc0_4
  have HB := Aside0.mk (Below.refl w.heap.size w)
  have H : ((hanaperref20_May.f k a0_0 a0_1 a0_2 a0_3 l0_4).bind fun t314 => (if t314 = true then ((hanaperref20_bytes.f k a0_0 a0_1 a0_2 a0_3 l0_4).bind fun t315 => (some (t315, 0))) else (some (([] : List Int), 1)))) = some (r1, r2) := h
  clear h
  replace H := Option.bind_eq_some_iff.mp H
  obtain ⟨t314, A20, H⟩ := H
  replace H : (if t314 = true then ((hanaperref20_bytes.f k a0_0 a0_1 a0_2 a0_3 l0_4).bind fun t315 => (some (t315, 0))) else (some (([] : List Int), 1))) = some (r1, r2) := H
  have A2 := Aside0.mk A20
  clear A20
  by_cases c3 : t314 = true
  · subst c3
    have H1 : ((hanaperref20_bytes.f k a0_0 a0_1 a0_2 a0_3 l0_4).bind fun t315 => (some (t315, 0))) = some (r1, r2) := by rw [if_pos rfl] at H; exact H
    clear H
    have H := H1
    clear H1
    replace H := Option.bind_eq_some_iff.mp H
    obtain ⟨t315, A40, H⟩ := H
    replace H : (some (t315, 0)) = some (r1, r2) := H
    have A4 := Aside0.mk A40
    clear A40
    simp only [Option.some.injEq, Prod.mk.injEq] at H
    obtain ⟨rfl, rfl⟩ := H
    go_enter Try.func26, Try.ntmps26
    go_wp2_with (first | ((with_reducible refine gate_dst (N := 1) rfl ?_); refine box_event ?hg (N := 1) ?hd (cs := #[.int .i64 a0_0, .string a0_1, .int .i64 a0_2, .int .i64 a0_3, .slice A0_4 l0_4.length c0_4]) (t := 40) ?hr ?_; (case hd => rfl); (case hg => rfl); (case hr => first | (go_simp; done) | (go_simp; rfl)); intro gb313 hg w5 hbox hb; have n0_ := Aside0.mk (below_step (by repeat (first | (with_reducible first | exact HB.out | apply below_alloc | apply pw_below_drewN | apply below_drew1) | exact HB.out)) hb); have n1_ := Aside0.mk (hbox); have n2_ := Aside0.mk ((by rw [hg]; exact (below_size (by repeat (first | (with_reducible first | exact HB.out | apply below_alloc | apply pw_below_drewN | apply below_drew1) | exact HB.out))) : w.heap.size ≤ gb313)); have n3_ := Aside0.mk ((by rw [hg]; exact (below_size (by repeat (first | (with_reducible first | exact HB.out | apply below_alloc | apply pw_below_drewN | apply below_drew1) | exact HB.out))) : w.heap.size ≤ gb313)); clear HB; have HB := n0_; have BK313 := n1_; have GW313 := n2_; have GE313 := n3_; clear n0_ n1_ n2_ n3_; clear hb hbox hg; have hcz6_0 : w5.cell? ⟨gb313, 0, none⟩ = some (.int .i64 a0_0) := (blk_cell BK313.out 0).trans rfl; have hcz6_1 : w5.cell? ⟨gb313, 1, none⟩ = some (.string a0_1) := (blk_cell BK313.out 1).trans rfl; have hcz6_2 : w5.cell? ⟨gb313, 2, none⟩ = some (.int .i64 a0_2) := (blk_cell BK313.out 2).trans rfl; have hcz6_3 : w5.cell? ⟨gb313, 3, none⟩ = some (.int .i64 a0_3) := (blk_cell BK313.out 3).trans rfl; have hcz6_4 : w5.cell? ⟨gb313, 4, none⟩ = some (.slice A0_4 l0_4.length c0_4) := (blk_cell BK313.out 4).trans rfl; have hfz6_0 := blk_frozen BK313.out 0; have hfz6_1 := blk_frozen BK313.out 1; have hfz6_2 := blk_frozen BK313.out 2; have hfz6_3 := blk_frozen BK313.out 3; have hfz6_4 := blk_frozen BK313.out 4) | ((with_reducible refine gate_callee (f := 68) rfl ?_); refine goesL_ (some 5) rfl rfl Try.func68 (by kernel_rfl) rfl #[.agg #[.int .i64 a0_0, .string a0_1, .int .i64 a0_2, .int .i64 a0_3, .slice A0_4 l0_4.length c0_4]] rfl (by (try simp only [List.map_toArray, List.map_cons, List.map_nil]); first | done | rfl | (simp only [List.length_drop, List.length_take]; rfl)) ?_; (with_reducible refine (hanaperref20_May.calls k a0_0 a0_1 a0_2 a0_3 _ _ l0_4 true _ ?side1 ?side2 A2.out).mono ?_); (case side1 => repeat (first | exact (Kd.C_below HR0_4.out HB.out) | (with_reducible refine Kd.C_alloc ?_ _) | (with_reducible refine Kd.C_drewN ?_ _) | (with_reducible refine Kd.C_drew ?_))); (case side2 => exact HC0_4.out); rintro e w7 ⟨rfl, hb⟩; refine ⟨_, rfl, ?_⟩; have n0_ := Aside0.mk (blk_below (g := gb313) (o := .cells #[.int .i64 a0_0, .string a0_1, .int .i64 a0_2, .int .i64 a0_3, .slice A0_4 l0_4.length c0_4] 40 (0, 0)) (by (with_reducible repeat (first | refine blk_drewN ?_ _ | refine blk_drew ?_ | refine blk_alloc ?_ _)); exact BK313.out) hb); have n1_ := Aside0.mk (below_step (by repeat (first | (with_reducible first | exact HB.out | apply below_alloc | apply pw_below_drewN | apply below_drew1 | refine below_set ?_ GE313.out) | exact HB.out)) hb); clear BK313; clear HB; have BK313 := n0_; have HB := n1_; clear n0_ n1_; (try clear hb); (try clear hb2); (try clear hk); (try clear hi); have hcz8_0 : w7.cell? ⟨gb313, 0, none⟩ = some (.int .i64 a0_0) := (blk_cell BK313.out 0).trans rfl; have hcz8_1 : w7.cell? ⟨gb313, 1, none⟩ = some (.string a0_1) := (blk_cell BK313.out 1).trans rfl; have hcz8_2 : w7.cell? ⟨gb313, 2, none⟩ = some (.int .i64 a0_2) := (blk_cell BK313.out 2).trans rfl; have hcz8_3 : w7.cell? ⟨gb313, 3, none⟩ = some (.int .i64 a0_3) := (blk_cell BK313.out 3).trans rfl; have hcz8_4 : w7.cell? ⟨gb313, 4, none⟩ = some (.slice A0_4 l0_4.length c0_4) := (blk_cell BK313.out 4).trans rfl; have hfz8_0 := blk_frozen BK313.out 0; have hfz8_1 := blk_frozen BK313.out 1; have hfz8_2 := blk_frozen BK313.out 2; have hfz8_3 := blk_frozen BK313.out 3; have hfz8_4 := blk_frozen BK313.out 4) | ((with_reducible refine gate_callee (f := 69) rfl ?_); refine goesL_ (some 8) rfl rfl Try.func69 (by kernel_rfl) rfl #[.agg #[.int .i64 a0_0, .string a0_1, .int .i64 a0_2, .int .i64 a0_3, .slice A0_4 l0_4.length c0_4]] rfl (by (try simp only [List.map_toArray, List.map_cons, List.map_nil]); first | done | rfl | (simp only [List.length_drop, List.length_take]; rfl)) ?_; (with_reducible refine (hanaperref20_bytes.calls k a0_0 a0_1 a0_2 a0_3 _ _ l0_4 t315 _ ?side1 ?side2 A4.out).mono ?_); (case side1 => repeat (first | exact (Kd.C_below HR0_4.out HB.out) | (with_reducible refine Kd.C_alloc ?_ _) | (with_reducible refine Kd.C_drewN ?_ _) | (with_reducible refine Kd.C_drew ?_))); (case side2 => exact HC0_4.out); rintro e w9 ⟨v316, rfl, ho0, hb⟩; refine ⟨_, rfl, ?_⟩; have n0_ := Aside0.mk (Kd.R_lower ho0 (below_size (by repeat (first | (with_reducible first | exact HB.out | apply below_alloc | apply pw_below_drewN | apply below_drew1 | refine below_set ?_ GE313.out) | exact HB.out)))); have n1_ := Aside0.mk (blk_below (g := gb313) (o := .cells #[.int .i64 a0_0, .string a0_1, .int .i64 a0_2, .int .i64 a0_3, .slice A0_4 l0_4.length c0_4] 40 (0, 0)) (by (with_reducible repeat (first | refine blk_drewN ?_ _ | refine blk_drew ?_ | refine blk_alloc ?_ _)); exact BK313.out) hb); have n2_ := Aside0.mk (below_step (by repeat (first | (with_reducible first | exact HB.out | apply below_alloc | apply pw_below_drewN | apply below_drew1 | refine below_set ?_ GE313.out) | exact HB.out)) hb); clear BK313; clear HB; have HO317 := n0_; have BK313 := n1_; have HB := n2_; clear n0_ n1_ n2_; (try clear hb); (try clear hb2); (try clear hk); (try clear hi); (try clear ho0)))
    go_ret2
    exact ⟨_, by first | rfl | (simp [errW_none, errW_some] <;> rfl) | (simp [*, errW_none, errW_some] <;> rfl), by (with_reducible repeat (first | apply Kd.R_alloc | apply Kd.R_drewN | apply Kd.R_drew)); exact HO317.out, by repeat (first | (with_reducible first | exact HB.out | apply below_alloc | apply pw_below_drewN | apply below_drew1 | refine below_set ?_ GE313.out) | exact HB.out)⟩
  · replace c3 := Bool.eq_false_iff.mpr c3
    subst c3
    have H1 : (some (([] : List Int), 1)) = some (r1, r2) := by rw [if_neg (show ¬ (false = true) by decide)] at H; exact H
    clear H
    have H := H1
    clear H1
    simp only [Option.some.injEq, Prod.mk.injEq] at H
    obtain ⟨rfl, rfl⟩ := H
    go_enter Try.func26, Try.ntmps26
    go_wp2_with (first | ((with_reducible refine gate_dst (N := 1) rfl ?_); refine box_event ?hg (N := 1) ?hd (cs := #[.int .i64 a0_0, .string a0_1, .int .i64 a0_2, .int .i64 a0_3, .slice A0_4 l0_4.length c0_4]) (t := 40) ?hr ?_; (case hd => rfl); (case hg => rfl); (case hr => first | (go_simp; done) | (go_simp; rfl)); intro gb313 hg w10 hbox hb; have n0_ := Aside0.mk (below_step (by repeat (first | (with_reducible first | exact HB.out | apply below_alloc | apply pw_below_drewN | apply below_drew1) | exact HB.out)) hb); have n1_ := Aside0.mk (hbox); have n2_ := Aside0.mk ((by rw [hg]; exact (below_size (by repeat (first | (with_reducible first | exact HB.out | apply below_alloc | apply pw_below_drewN | apply below_drew1) | exact HB.out))) : w.heap.size ≤ gb313)); have n3_ := Aside0.mk ((by rw [hg]; exact (below_size (by repeat (first | (with_reducible first | exact HB.out | apply below_alloc | apply pw_below_drewN | apply below_drew1) | exact HB.out))) : w.heap.size ≤ gb313)); clear HB; have HB := n0_; have BK313 := n1_; have GW313 := n2_; have GE313 := n3_; clear n0_ n1_ n2_ n3_; clear hb hbox hg; have hcz11_0 : w10.cell? ⟨gb313, 0, none⟩ = some (.int .i64 a0_0) := (blk_cell BK313.out 0).trans rfl; have hcz11_1 : w10.cell? ⟨gb313, 1, none⟩ = some (.string a0_1) := (blk_cell BK313.out 1).trans rfl; have hcz11_2 : w10.cell? ⟨gb313, 2, none⟩ = some (.int .i64 a0_2) := (blk_cell BK313.out 2).trans rfl; have hcz11_3 : w10.cell? ⟨gb313, 3, none⟩ = some (.int .i64 a0_3) := (blk_cell BK313.out 3).trans rfl; have hcz11_4 : w10.cell? ⟨gb313, 4, none⟩ = some (.slice A0_4 l0_4.length c0_4) := (blk_cell BK313.out 4).trans rfl; have hfz11_0 := blk_frozen BK313.out 0; have hfz11_1 := blk_frozen BK313.out 1; have hfz11_2 := blk_frozen BK313.out 2; have hfz11_3 := blk_frozen BK313.out 3; have hfz11_4 := blk_frozen BK313.out 4) | ((with_reducible refine gate_callee (f := 68) rfl ?_); refine goesL_ (some 5) rfl rfl Try.func68 (by kernel_rfl) rfl #[.agg #[.int .i64 a0_0, .string a0_1, .int .i64 a0_2, .int .i64 a0_3, .slice A0_4 l0_4.length c0_4]] rfl (by (try simp only [List.map_toArray, List.map_cons, List.map_nil]); first | done | rfl | (simp only [List.length_drop, List.length_take]; rfl)) ?_; (with_reducible refine (hanaperref20_May.calls k a0_0 a0_1 a0_2 a0_3 _ _ l0_4 false _ ?side1 ?side2 A2.out).mono ?_); (case side1 => repeat (first | exact (Kd.C_below HR0_4.out HB.out) | (with_reducible refine Kd.C_alloc ?_ _) | (with_reducible refine Kd.C_drewN ?_ _) | (with_reducible refine Kd.C_drew ?_))); (case side2 => exact HC0_4.out); rintro e w12 ⟨rfl, hb⟩; refine ⟨_, rfl, ?_⟩; have n0_ := Aside0.mk (blk_below (g := gb313) (o := .cells #[.int .i64 a0_0, .string a0_1, .int .i64 a0_2, .int .i64 a0_3, .slice A0_4 l0_4.length c0_4] 40 (0, 0)) (by (with_reducible repeat (first | refine blk_drewN ?_ _ | refine blk_drew ?_ | refine blk_alloc ?_ _)); exact BK313.out) hb); have n1_ := Aside0.mk (below_step (by repeat (first | (with_reducible first | exact HB.out | apply below_alloc | apply pw_below_drewN | apply below_drew1 | refine below_set ?_ GE313.out) | exact HB.out)) hb); clear BK313; clear HB; have BK313 := n0_; have HB := n1_; clear n0_ n1_; (try clear hb); (try clear hb2); (try clear hk); (try clear hi)))
    go_ret2
    exact ⟨_, by first | rfl | (simp [errW_none, errW_some] <;> rfl) | (simp [*, errW_none, errW_some] <;> rfl), by first | exact Kd.R_nil _ _ _ _ _ | exact Kd.N_nil _ _ _ _ _ | exact Kd.V_nil _ _ _ _ _ | exact Kd.Q_nil _ _ _ _ _ | exact Kd.S_nil _ _ _ _ _, by repeat (first | (with_reducible first | exact HB.out | apply below_alloc | apply pw_below_drewN | apply below_drew1 | refine below_set ?_ GE313.out) | exact HB.out)⟩

end Go.Proofs.Ytgdpabedlghiaaa.PZ
/- A scope's bytes, as the document has them. -/
namespace Go.Proofs.Ytgdpabedlghiaaa.Scope
set_option linter.unusedVariables false
set_option linter.unusedSimpArgs false
open Go.RowKit Go.Proofs.YtgdpabedlghiaaaW.PrintWords Go.Proofs.Ytgdpabedlghiaaa.PZ Go.Proofs.Ytgdpabedlghiaaa.Aid Go.Proofs.Ytgdpabedlghiaaa.Lo
theorem bytes_loop (op : Int) (nm : ByteArray) (fr to_ : Int) (kids : List S40) (hs : shortL kids) (hl : kids.length ≤ 60)
    (ih : ∀ k ∈ kids, Ev (fun n => hanaperref20_bytes.f n k.f0 k.f1 k.f2 k.f3 k.f4) (putS k)) :
    ∀ (j i : Nat) (acc : List Int), i + j = kids.length → acc.length + 110 * nodesL (kids.drop i) < 140737488355328 →
      Ev (fun n => hanaperref20_bytes.l0 n acc (i : Int) op nm fr to_ kids) (acc ++ putL (kids.drop i)) := by
  intro j
  induction j with
  | zero =>
    intro i acc hi hb
    refine Ev.step (fun k => by simp only [hanaperref20_bytes.l0]; rfl) (neg (by omega) (now ?_))
    rw [List.drop_eq_nil_of_le (by omega), putL, List.append_nil]
  | succ j ih2 =>
    intro i acc hi hb
    have hlt : i < kids.length := by omega
    rw [nodesL_drop kids i hlt] at hb
    have hk := List.getElem_mem hlt
    have hp := put_len _ kids[i] (Nat.lt_succ_self _) (shortL_mem hs hk)
    refine Ev.step (fun k => by simp only [hanaperref20_bytes.l0]; rfl) (pos (by omega) (pos (by omega) ?_))
    rw [rd_at kids i hlt]
    refine evBind (ih kids[i] hk) (pos (by omega) ?_)
    rw [show wrap64 ((i : Int) + 1) = ((i + 1 : Nat) : Int) from inc hlt (by omega)]
    have h := ih2 (i + 1) (acc ++ putS kids[i]) (by omega) (by rw [List.length_append]; omega)
    rw [List.drop_eq_getElem_cons hlt, putL, ← List.append_assoc]
    exact h
theorem bytes_ev : ∀ (n : Nat) (x : S40), SizeOf.sizeOf x < n → short x → nodes x ≤ 60 → Ev (fun k => hanaperref20_bytes.f k x.f0 x.f1 x.f2 x.f3 x.f4) (putS x) := by
  intro n
  induction n with
  | zero => intro x h; exact absurd h (by omega)
  | succ n ih =>
    intro x hn hs hN
    have hs2 := (short_eq x).1 hs
    have hN2 : nodesL x.f4 < 60 := by rw [nodes_eq] at hN; omega
    have hlen := len_nodes x.f4
    have hL : ∀ acc : List Int, acc.length ≤ 1000 → Ev (fun n => hanaperref20_bytes.j2 n acc x.f0 x.f1 x.f2 x.f3 x.f4) (acc ++ putL x.f4) := fun acc ha => by
      have h := bytes_loop x.f0 x.f1 x.f2 x.f3 x.f4 hs2.2 (by omega) (fun k hk => ih k (by have := kid_lt hk; omega) (shortL_mem hs2.2 hk) (by have := node_le hk; omega)) x.f4.length 0 acc (by omega) (by rw [List.drop_zero]; omega)
      rw [List.drop_zero] at h
      exact Ev.step (fun k => by simp only [hanaperref20_bytes.j2]; rfl) h
    have hM : ∀ acc : List Int, acc.length ≤ 900 → Ev (fun n => hanaperref20_bytes.j1 n acc x.f0 x.f1 x.f2 x.f3 x.f4) (acc ++ ((if x.f0 = 6 ∨ x.f0 = 7 then intB (x.f4.length : Int) else []) ++ putL x.f4)) := fun acc ha => by
      have hi := intB_len (x.f4.length : Int)
      refine Ev.step (fun k => by simp only [hanaperref20_bytes.j1]; rfl) (bindSome (many_v x.f0) ?_)
      by_cases c : x.f0 = 6 ∨ x.f0 = 7
      · rw [if_pos c, ← List.append_assoc]
        exact pos (decide_eq_true c) (evBind (rint_ev _) (pos (by omega) (hL _ (by rw [List.length_append]; omega))))
      · rw [if_neg c, List.nil_append]
        exact neg (by simpa using c) (hL _ (by omega))
    have hh := head_len x.f0 x.f1 x.f2 x.f3 x.f4.length hs2.1
    have h5 := intB_len x.f2
    have h6 := intB_len x.f3
    rw [put_eq]
    refine Ev.step (fun k => by simp only [hanaperref20_bytes.f, Option.bind_some, named_v2]; rfl) ?_
    unfold headS at hh ⊢
    by_cases c1 : namedB x.f0 = true
    · rw [if_pos c1] at hh ⊢
      have n5 : x.f0 ≠ 5 := by intro h; rw [h] at c1; exact absurd c1 (by decide)
      have n67 : ¬ (x.f0 = 6 ∨ x.f0 = 7) := by rintro (h | h) <;> (rw [h] at c1; exact absurd c1 (by decide))
      refine pos c1 (bindSome (show hanaperref01_TextS.f x.f1 = some (textB (bytesOf x.f1)) from if_pos (by omega)) (pos (by simp only [List.length_cons, List.length_nil]; omega) ?_))
      refine Ev.step (fun k => by simp only [hanaperref20_bytes.j0]; rfl) (neg n5 ?_)
      have h := hM ([x.f0 % 256] ++ textB (bytesOf x.f1)) (by simp only [List.length_append, List.length_cons, List.length_nil]; omega)
      rw [if_neg n67, List.nil_append] at h
      exact h
    · rw [if_neg c1] at hh ⊢
      refine neg c1 (Ev.step (fun k => by simp only [hanaperref20_bytes.j0]; rfl) ?_)
      by_cases c5 : x.f0 = 5
      · rw [if_pos c5] at hh ⊢
        refine pos c5 (evBind (rint_ev x.f2) (pos (by simp only [List.length_cons, List.length_nil]; omega) (bindSome rfl (evBind (rint_ev x.f3) (pos (by simp only [List.length_append, List.length_cons, List.length_nil]; omega) ?_)))))
        have h := hM ([x.f0 % 256] ++ intB x.f2 ++ intB x.f3) (by simp only [List.length_append, List.length_cons, List.length_nil]; omega)
        rw [if_neg (by omega), List.nil_append] at h
        have e : (x.f0 % 256) :: (intB x.f2 ++ intB x.f3 ++ putL x.f4) = [x.f0 % 256] ++ intB x.f2 ++ intB x.f3 ++ putL x.f4 := by simp
        rw [e]
        exact h
      · rw [if_neg c5] at hh ⊢
        refine neg c5 ?_
        exact hM [x.f0 % 256] (by simp)
theorem rPut_ev (x : S40) (hs : short x) (hN : nodes x ≤ 60) : Ev (fun k => hanaperref20_Put.f k x.f0 x.f1 x.f2 x.f3 x.f4) (if mayB x = true then (putS x, 0) else ([], 1)) := by
  unfold hanaperref20_Put.f
  refine evBind (May_ev x hs hN) ?_
  by_cases c : mayB x = true
  · rw [if_pos c]
    exact pos c (evBind (bytes_ev _ x (Nat.lt_succ_self _) hs hN) (now rfl))
  · rw [if_neg c]
    exact neg c (now rfl)
end Go.Proofs.Ytgdpabedlghiaaa.Scope
-- printed for this claim by a program (pall.sh)
namespace Go.Proofs.Ytgdpabedlghiaaa.PZ
open Go.RowKit Go.Proofs.YtgdpabedlghiaaaW.PrintWords Go.Proofs.YtgdpabedlghiaaaW.PrintLast Go.Proofs.YtgdpabedlghiaaaW.PrintMore
attribute [local go_sem] max2_int min2_int max_two min_two max_three min_three max_four min_four   -- for this text's walks alone
set_option linter.unusedVariables false
set_option linter.unusedSimpArgs false

/-! ### hanaperlaw20_num: function 27 -/
def hanaperlaw20_num.f (a0 : Int) : Option (Int) := some a0
set_option maxHeartbeats 8000000 in
set_option maxRecDepth 100000 in
theorem hanaperlaw20_num.calls (a0 : Int) (r : Int) (w : World) (h : hanaperlaw20_num.f a0 = some r) :
    Calls Try.prog 27 #[.int .i64 a0] w fun e w' => e = .returned (.int .i64 r) ∧ Drawn0 w w' := by
  have H : (some a0) = some r := h
  clear h
  obtain rfl := Option.some.inj H
  go_enter Try.func27, Try.ntmps27
  go_wp2
  go_ret
  exact ⟨by first | rfl | (simp; done) | (simp [*]; done), by repeat (first | exact Drawn0.refl _ | apply Drawn0.step)⟩

end Go.Proofs.Ytgdpabedlghiaaa.PZ
