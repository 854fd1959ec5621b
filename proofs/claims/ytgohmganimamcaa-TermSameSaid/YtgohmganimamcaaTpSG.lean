/- Own and printed texts, laid together. -/
import Derived.Test.YtgohmganimamcaaTpSE
import Derived.Test.YtgohmganimamcaaTpSF
import Derived.Deep.RegionHeld
import Derived.Test.YtgohmganimamcaaTpSD
import Derived.RegionTactic
/- What the law TermSame needs of the functions: contracts over terms that are read. -/
namespace Go.Proofs.Ytgohmganimamcaa.Term
set_option linter.unusedVariables false
set_option linter.unusedSimpArgs false
open Go.RowKit Go.Proofs.Ytgohmganimamcaa.Base Go.Proofs.Ytgohmganimamcaa.TlvPlain Go.Proofs.Ytgohmganimamcaa.Lo Go.Proofs.Ytgohmganimamcaa.RdPlain Go.Proofs.Ytgohmganimamcaa.Aid Go.Proofs.Ytgohmganimamcaa.PZ Go.Proofs.YtgohmganimamcaaW.PrintWords Go.Proofs.YtgohmganimamcaaW.PrintLast Go.Proofs.YtgohmganimamcaaW.PrintMore
theorem eta_T (x : ST) : (⟨x.f0, x.f1, x.f2, x.f3⟩ : ST) = x := by cases x; rfl
mutual
/-- A term's rows are short. -/
def lenT : ST → Prop
  | ⟨_, _, d, ks⟩ => d.length ≤ 500 ∧ ks.length ≤ 60 ∧ lenTs ks
def lenTs : List ST → Prop
  | [] => True
  | k :: ks => lenT k ∧ lenTs ks
end
theorem lenTs_mem : ∀ {l : List ST} {k : ST}, lenTs l → k ∈ l → lenT k
  | a :: l, k, h, hk => by
    rw [lenTs] at h
    rcases List.mem_cons.1 hk with rfl | hk
    · exact h.1
    · exact lenTs_mem h.2 hk
theorem lenTs_of : ∀ {l : List ST}, (∀ k ∈ l, lenT k) → lenTs l
  | [], _ => by rw [lenTs]; trivial
  | a :: l, h => by rw [lenTs]; exact ⟨h a (by simp), lenTs_of (fun k hk => h k (by simp [hk]))⟩
theorem lenT_eq (x : ST) : lenT x ↔ x.f2.length ≤ 500 ∧ x.f3.length ≤ 60 ∧ lenTs x.f3 := by cases x; rw [lenT]
theorem rest_ev2 : ∀ (d : Nat), d ≤ 40 → ∀ (x : ST) (m : Int), m ≤ 60 → ∃ r, -1 ≤ r ∧ r ≤ 60 ∧ Ev (fun k => hanaperref05_rest.f k x.f0 x.f1 x.f2 x.f3 m (d : Int)) r ∧ (0 ≤ r → lenT x) := by
  intro d
  induction d with
  | zero =>
    intro _ x m hm
    have bad : Ev (fun k => hanaperref05_rest.j0 k m ((0 : Nat) : Int) true x.f0 x.f1 x.f2 x.f3) (-1) := Ev.step (fun k => by simp only [hanaperref05_rest.j0]; rfl) (pos (show true = true from rfl) (now rfl))
    refine ⟨-1, by omega, by omega, Ev.step (fun k => by simp only [hanaperref05_rest.f]; rfl) ?_, fun h => by omega⟩
    by_cases h1 : m < 1
    · exact pos h1 bad
    · exact neg h1 (pos (by omega) bad)
  | succ d ih =>
    intro hd x m hm
    have bad : Ev (fun k => hanaperref05_rest.j0 k m ((d + 1 : Nat) : Int) true x.f0 x.f1 x.f2 x.f3) (-1) := Ev.step (fun k => by simp only [hanaperref05_rest.j0]; rfl) (pos (show true = true from rfl) (now rfl))
    by_cases h1 : m < 1
    · exact ⟨-1, by omega, by omega, Ev.step (fun k => by simp only [hanaperref05_rest.f]; rfl) (pos h1 bad), fun h => by omega⟩
    by_cases h3 : (x.f3.length : Int) > m
    · exact ⟨-1, by omega, by omega, Ev.step (fun k => by simp only [hanaperref05_rest.f]; rfl) (neg h1 (neg (by omega) (pos h3 bad))), fun h => by omega⟩
    have hdec : wrap64 (((d + 1 : Nat) : Int) - 1) = (d : Int) := by rw [Aid.w64 (by omega) (by omega)]; omega
    have loop : ∀ (n i : Nat) (y : Int), i + n = x.f3.length → -1 ≤ y → y ≤ 60 → ∃ r, -1 ≤ r ∧ r ≤ 60 ∧ Ev (fun k => hanaperref05_rest.l0 k y ((d + 1 : Nat) : Int) (i : Int) x.f0 x.f1 x.f2 x.f3) r ∧ (0 ≤ r → 0 ≤ y ∧ ∀ k ∈ x.f3.drop i, lenT k) := by
      intro n
      induction n with
      | zero =>
        intro i y hi hy hy2
        refine ⟨y, hy, hy2, Ev.step (fun k => by simp only [hanaperref05_rest.l0]; rfl) (neg (by omega) (now rfl)), fun h => ⟨h, ?_⟩⟩
        rw [List.drop_eq_nil_of_le (by omega)]
        simp
      | succ n ihn =>
        intro i y hi hy hy2
        have hlt : i < x.f3.length := by omega
        by_cases hy0 : y ≥ 0
        · obtain ⟨r1, a1, b1, e1, g1⟩ := ih (by omega) x.f3[i] y hy2
          obtain ⟨r2, a2, b2, e2, g2⟩ := ihn (i + 1) r1 (by omega) a1 b1
          refine ⟨r2, a2, b2, Ev.step (fun k => by simp only [hanaperref05_rest.l0]; rfl) (pos (by omega) (pos hy0 (pos (by omega) ?_))), fun h => ⟨hy0, ?_⟩⟩
          · rw [rd_at x.f3 i hlt, hdec]
            refine evBind e1 ?_
            rw [inc hlt (by omega)]
            exact e2
          · rw [drop_cons _ _ hlt]
            intro k hk
            rcases List.mem_cons.1 hk with rfl | hk
            · exact g1 (g2 h).1
            · exact (g2 h).2 k hk
        · exact ⟨y, hy, hy2, Ev.step (fun k => by simp only [hanaperref05_rest.l0]; rfl) (pos (by omega) (neg hy0 (now rfl))), fun h => absurd h hy0⟩
    by_cases h4 : (x.f2.length : Int) > 500
    · refine ⟨-1, by omega, by omega, Ev.step (fun k => by simp only [hanaperref05_rest.f]; rfl) (neg h1 (neg (by omega) (neg h3 ?_))), fun h => by omega⟩
      rw [decide_eq_true h4]
      exact bad
    · obtain ⟨r, a, b, e, g⟩ := loop x.f3.length 0 (m - 1) (by omega) (by omega) (by omega)
      refine ⟨r, a, b, Ev.step (fun k => by simp only [hanaperref05_rest.f]; rfl) (neg h1 (neg (by omega) (neg h3 ?_))), fun h => (lenT_eq x).2 ⟨by omega, by omega, lenTs_of (g h).2⟩⟩
      rw [decide_eq_false h4]
      refine Ev.step (fun k => by simp only [hanaperref05_rest.j0]; rfl) (neg (by decide) ?_)
      rw [Aid.w64 (by omega) (by omega)]
      exact e
theorem small_c (x : ST) : ∃ b : Bool, (∀ (A2 : Option Addr) (c2 : Nat) (A3 : Option Addr) (c3 : Nat) (w : World), RowsT w x A2 c2 A3 c3 → Calls Try.prog 10 #[.agg #[.int .i64 x.f0, .int .u64 x.f1, .slice A2 x.f2.length c2, .slice A3 x.f3.length c3], .int .i64 60] w fun e w' => e = .returned (.bool b) ∧ Below w.heap.size w w') ∧ (b = true → lenT x) := by
  obtain ⟨r, _, _, e, g⟩ := rest_ev2 40 (by omega) x 60 (by omega)
  obtain ⟨k, hk⟩ := (show Ev (fun k => hanaperref05_Small.f k x.f0 x.f1 x.f2 x.f3 60) (decide (r ≥ 0)) from by unfold hanaperref05_Small.f; exact evBind e (now rfl)).rounds
  exact ⟨decide (r ≥ 0), fun A2 c2 A3 c3 w h => hanaperref05_Small.calls k x.f0 x.f1 A2 c2 x.f2 A3 c3 x.f3 60 _ w h.1.2 h.1.1 h.2.2 h.2.1 hk, fun h => g (of_decide_eq_true h)⟩
theorem rsame_ev : ∀ (n : Nat) (x y : ST), SizeOf.sizeOf x < n → lenT x → Ev (fun k => hanaperref05_Same.f k x.f0 x.f1 x.f2 x.f3 y.f0 y.f1 y.f2 y.f3) (eqT x y) := by
  intro n
  induction n with
  | zero => intro x y h; exact absurd h (by omega)
  | succ n ih =>
    intro x y hn hx
    obtain ⟨h2, h3, hk⟩ := (lenT_eq x).1 hx
    have bad : Ev (fun k => hanaperref05_Same.j0 k true x.f0 x.f1 x.f2 x.f3 y.f0 y.f1 y.f2 y.f3) false := Ev.step (fun k => by simp only [hanaperref05_Same.j0]; rfl) (pos (show true = true from rfl) (now rfl))
    have loop : x.f3.length = y.f3.length → ∀ (m i : Nat), i + m = x.f3.length → Ev (fun k => hanaperref05_Same.l0 k (i : Int) x.f0 x.f1 x.f2 x.f3 y.f0 y.f1 y.f2 y.f3) (eqTs (x.f3.drop i) (y.f3.drop i)) := by
      intro hl m
      induction m with
      | zero =>
        intro i hi
        rw [List.drop_eq_nil_of_le (by omega), List.drop_eq_nil_of_le (by omega)]
        exact Ev.step (fun k => by simp only [hanaperref05_Same.l0]; rfl) (neg (by omega) (now (by rw [eqTs])))
      | succ m ihm =>
        intro i hi
        have hlt : i < x.f3.length := by omega
        have hlt2 : i < y.f3.length := by omega
        rw [drop_cons _ _ hlt, drop_cons _ _ hlt2, eqTs]
        refine Ev.step (fun k => by simp only [hanaperref05_Same.l0]; rfl) (pos (by omega) (pos (by omega) (pos (by omega) ?_)))
        rw [rd_at x.f3 i hlt, rd_at y.f3 i hlt2]
        have hs : SizeOf.sizeOf x.f3[i] < n := by
          have h1 := List.sizeOf_lt_of_mem (List.getElem_mem hlt)
          have h2 : SizeOf.sizeOf x.f3 < SizeOf.sizeOf x := by cases x; simp; omega
          omega
        refine evBind (ih x.f3[i] y.f3[i] hs (lenTs_mem hk (List.getElem_mem hlt))) ?_
        cases hq : eqT x.f3[i] y.f3[i] with
        | false => rw [Bool.false_and]; exact neg (by decide) (now rfl)
        | true =>
          rw [Bool.true_and]
          refine pos rfl ?_
          rw [inc hlt (by omega)]
          exact ihm (i + 1) (by omega)
    have he : eqT x y = ((decide (x.f0 = y.f0) && decide (x.f1 = y.f1)) && (decide (x.f2 = y.f2) && eqTs x.f3 y.f3)) := by cases x; cases y; rw [eqT]
    rw [he]
    refine Ev.step (fun k => by simp only [hanaperref05_Same.f]; rfl) ?_
    by_cases c0 : x.f0 = y.f0
    · rw [decide_eq_true c0, Bool.true_and]
      refine pos c0 ?_
      by_cases c1 : x.f1 = y.f1
      · rw [decide_eq_true c1, Bool.true_and]
        refine pos c1 (evBind (same_ev x.f2 y.f2 (by omega)) ?_)
        by_cases c2 : x.f2 = y.f2
        · rw [decide_eq_true c2, Bool.true_and]
          refine pos (show true = true from rfl) ?_
          by_cases c3 : x.f3.length = y.f3.length
          · rw [show ((x.f3.length : Int) != (y.f3.length : Int)) = false by rw [c3]; simp]
            have h := loop c3 x.f3.length 0 (by omega)
            rw [List.drop_zero, List.drop_zero] at h
            exact Ev.step (fun k => by simp only [hanaperref05_Same.j0]; rfl) (neg (by decide) h)
          · rw [show ((x.f3.length : Int) != (y.f3.length : Int)) = true by simp; omega]
            have hf : eqTs x.f3 y.f3 = false := by
              rw [Bool.eq_false_iff]
              intro h
              rw [(eqTs_iff _ _).1 h] at c3
              exact c3 rfl
            rw [hf]
            exact bad
        · rw [decide_eq_false c2, Bool.false_and]
          exact neg (by decide) bad
      · rw [decide_eq_false c1, Bool.false_and]
        exact neg c1 bad
    · rw [decide_eq_false c0, Bool.false_and, Bool.false_and]
      exact neg c0 bad
theorem rsame_c (x y : ST) (hx : lenT x) (A2 : Option Addr) (c2 : Nat) (A3 : Option Addr) (c3 : Nat) (B2 : Option Addr) (d2 : Nat) (B3 : Option Addr) (d3 : Nat) (w : World) (h : RowsT w x A2 c2 A3 c3) (g : RowsT w y B2 d2 B3 d3) :
    Calls Try.prog 20 #[.agg #[.int .i64 x.f0, .int .u64 x.f1, .slice A2 x.f2.length c2, .slice A3 x.f3.length c3], .agg #[.int .i64 y.f0, .int .u64 y.f1, .slice B2 y.f2.length d2, .slice B3 y.f3.length d3]] w fun e w' => e = .returned (.bool (eqT x y)) ∧ Below w.heap.size w w' := by
  obtain ⟨k, hk⟩ := (rsame_ev _ x y (Nat.lt_succ_self _) hx).rounds
  exact hanaperref05_Same.calls k x.f0 x.f1 A2 c2 x.f2 A3 c3 x.f3 y.f0 y.f1 B2 d2 y.f2 B3 d3 y.f3 _ w h.1.2 h.1.1 h.2.2 h.2.1 g.1.2 g.1.1 g.2.2 g.2.1 hk
theorem eqT_refl (x : ST) : eqT x x = true := (eqT_iff x x).2 rfl
mutual
theorem parts_lenT : ∀ (x : ST), lenT x → ∀ p ∈ partsT x, lenT p
  | ⟨a, n, d, ks⟩, h, p, hp => by
    rw [partsT] at hp
    rcases List.mem_cons.1 hp with rfl | hp
    · exact h
    · exact parts_lenTs ks ((lenT_eq _).1 h).2.2 p hp
theorem parts_lenTs : ∀ (l : List ST), lenTs l → ∀ p ∈ partsTs l, lenT p
  | [], _, p, hp => by rw [partsTs] at hp; cases hp
  | k :: ks, h, p, hp => by
    rw [partsTs] at hp
    rw [lenTs] at h
    rcases List.mem_append.1 hp with hp | hp
    · exact parts_lenT k h.1 p hp
    · exact parts_lenTs ks h.2 p hp
end
theorem sameall_ev (l : List ST) (hl : l.length ≤ 1000000) (h : ∀ p ∈ l, lenT p) : Ev (fun k => hanaperref05_SameAll.f k l l) true := by
  have loop : ∀ (m i : Nat), i + m = l.length → Ev (fun k => hanaperref05_SameAll.l0 k l l (i : Int)) true := by
    intro m
    induction m with
    | zero => intro i hi; exact Ev.step (fun k => by simp only [hanaperref05_SameAll.l0]; rfl) (neg (by omega) (now rfl))
    | succ m ih =>
      intro i hi
      have hlt : i < l.length := by omega
      refine Ev.step (fun k => by simp only [hanaperref05_SameAll.l0]; rfl) (pos (by omega) (pos (by omega) (pos (by omega) ?_)))
      rw [rd_at l i hlt]
      have he := rsame_ev _ l[i] l[i] (Nat.lt_succ_self _) (h _ (List.getElem_mem hlt))
      rw [eqT_refl] at he
      refine evBind he (pos rfl ?_)
      rw [inc hlt (by omega)]
      exact ih (i + 1) (by omega)
  unfold hanaperref05_SameAll.f
  exact pos rfl (loop l.length 0 (by omega))
theorem rparts_ev : ∀ (d : Nat) (x : ST), d ≤ 8 → mayT d x = true → Ev (fun k => hanaperref05_Parts.f k x.f0 x.f1 x.f2 x.f3) (partsT x) := by
  intro d
  induction d with
  | zero => intro x _ h; rw [mayT] at h; cases h
  | succ d ih =>
    intro x hd h
    have hpl := parts_len (d + 1) x h
    obtain ⟨_, h2, _, _, _, _, h7⟩ := may_parts h
    have hk2 : x.f3.length ≤ 2 := by have := kid_len x.f0; omega
    have hpow : 2 ^ (d + 1) ≤ 2 ^ 8 := Nat.pow_le_pow_right (by decide) hd
    have loop : ∀ (m i : Nat), i + m = x.f3.length → Ev (fun k => hanaperref05_Parts.l0 k (x :: ((x.f3.take i).map partsT).flatten) (i : Int) x.f0 x.f1 x.f2 x.f3) (partsT x) := by
      intro m
      induction m with
      | zero =>
        intro i hi
        refine Ev.step (fun k => by simp only [hanaperref05_Parts.l0]; rfl) (neg (by omega) (now ?_))
        rw [partsT_eq, List.take_of_length_le (by omega)]
      | succ m ihm =>
        intro i hi
        have hlt : i < x.f3.length := by omega
        refine Ev.step (fun k => by simp only [hanaperref05_Parts.l0]; rfl) (pos (by omega) (pos (by omega) ?_))
        rw [rd_at x.f3 i hlt]
        refine evBind (ih x.f3[i] (by omega) (h7 _ (List.getElem_mem hlt))) ?_
        have hle := lflat_le partsT x.f3 i hlt
        have hb : (x.f3.map partsT).flatten.length + 1 ≤ 2 ^ 8 := by
          rw [partsT_eq, List.length_cons] at hpl
          have : 0 < 2 ^ (d + 1) := Nat.two_pow_pos _
          omega
        refine pos (by simp only [List.length_cons]; omega) ?_
        rw [inc hlt (by omega), List.cons_append, ← lflat_snoc partsT x.f3 i hlt]
        exact ihm (i + 1) (by omega)
    have h := loop x.f3.length 0 (by omega)
    simp only [List.take_zero, List.map_nil, List.flatten_nil] at h
    exact Ev.step (fun k => by simp only [hanaperref05_Parts.f]; rw [eta_T]; rfl) h
/-- A value that is a term, read. -/
def TmV (w : World) (x : ST) (v : Value) : Prop := ∃ A2 c2 A3 c3, v = .agg #[.int .i64 x.f0, .int .u64 x.f1, .slice A2 x.f2.length c2, .slice A3 x.f3.length c3] ∧ RowsT w x A2 c2 A3 c3
theorem TmV.below {w w' : World} {x : ST} {v : Value} (h : TmV w x v) (hb : Below w.heap.size w w') : TmV w' x v := by
  obtain ⟨A2, c2, A3, c3, rfl, hr⟩ := h
  exact ⟨A2, c2, A3, c3, rfl, hr.below hb⟩
theorem tm_of {w : World} {base b2 : Nat} {ok ok2 : Nat → Prop} {a n : Int} {l2 : List Int} {l3 : List ST} {v2 v3 : Value} (h2 : Kd.R (Kd.int .u8) 5 w base ok v2 l2) (h3 : Kd.N k26 26 w b2 ok2 v3 l3) : TmV w ⟨a, n, l2, l3⟩ (.agg #[.int .i64 a, .int .u64 n, v2, v3]) := by
  obtain ⟨A2, c2, rfl⟩ := Kd.R_slice h2
  obtain ⟨A3, c3, rfl⟩ := Kd.N_slice h3
  exact ⟨A2, c2, A3, c3, rfl, ⟨(Kd.R_reads' h2).2.1, (Kd.R_reads' h2).2.2⟩, (Kd.N_reads' h3).2.1, (Kd.N_reads' h3).2.2⟩
/-- A value that is a term, read in the blocks of ok. -/
def TmF (w : World) (ok : Nat → Prop) (x : ST) (v : Value) : Prop := ∃ A2 c2 A3 c3, v = .agg #[.int .i64 x.f0, .int .u64 x.f1, .slice A2 x.f2.length c2, .slice A3 x.f3.length c3] ∧ RowsF w ok x A2 c2 A3 c3
theorem tf_of {w : World} {base b2 : Nat} {ok ok2 ok3 : Nat → Prop} {a n : Int} {l2 : List Int} {l3 : List ST} {v2 v3 : Value} (h2 : Kd.R (Kd.int .u8) 5 w base ok v2 l2) (h3 : Kd.N k26 26 w b2 ok2 v3 l3) (ho : ∀ k, ok k → ok3 k) (ho2 : ∀ k, ok2 k → ok3 k) : TmF w ok3 ⟨a, n, l2, l3⟩ (.agg #[.int .i64 a, .int .u64 n, v2, v3]) := by
  obtain ⟨A2, c2, rfl⟩ := Kd.R_slice h2
  obtain ⟨A3, c3, rfl⟩ := Kd.N_slice h3
  have g3 := Kd.V_at (Kd.N_V (base' := 0) h3)
  exact ⟨A2, c2, A3, c3, rfl, ⟨(Kd.R_reads' h2).2.1, Kd.F_mono (Kd.R_F h2) ho⟩, g3.2.1, Kd.F_mono g3.2.2 ho2⟩
theorem rowsF_of {w0 w : World} {x : ST} {A2 A3 : Option Addr} {c2 c3 : Nat} (h : RowsT w0 x A2 c2 A3 c3) (hb : Below w0.heap.size w0 w) : RowsF w (fun k => k < w0.heap.size) x A2 c2 A3 c3 :=
  ⟨⟨h.1.1, Kd.F_below (Kd.C_F (Kd.heap_int .u8) h.1.2) hb⟩, h.2.1, Kd.F_below (Kd.C_F k26_heap h.2.2) hb⟩
theorem v2_of {w : World} {ok : Nat → Prop} {x : ST} {A2 A3 : Option Addr} {c2 c3 : Nat} (h : RowsF w ok x A2 c2 A3 c3) : Kd.V (Kd.int .u8) 5 w w.heap.size (fun k => ok k) (.slice A2 x.f2.length c2) x.f2 := Kd.V_mk h.1.1 h.1.2
theorem v3_of {w : World} {ok : Nat → Prop} {x : ST} {A2 A3 : Option Addr} {c2 c3 : Nat} (h : RowsF w ok x A2 c2 A3 c3) : Kd.V k26 26 w w.heap.size (fun k => ok k) (.slice A3 x.f3.length c3) x.f3 := Kd.V_mk h.2.1 h.2.2
theorem pair_c {x y : ST} {ok : Nat → Prop} {A2 A3 B2 B3 : Option Addr} {c2 c3 d2 d3 : Nat} {w : World} (h : RowsF w ok x A2 c2 A3 c3) (g : RowsF w ok y B2 d2 B3 d3) :
    Calls Try.prog 33 #[.agg #[.int .i64 x.f0, .int .u64 x.f1, .slice A2 x.f2.length c2, .slice A3 x.f3.length c3], .agg #[.int .i64 y.f0, .int .u64 y.f1, .slice B2 y.f2.length d2, .slice B3 y.f3.length d3]] w fun e w' => ∃ v, e = .returned v ∧ TmF w' (fun k => ok k ∨ w.heap.size ≤ k) ⟨4, 0, [], [x, y]⟩ v ∧ Below w.heap.size w w' := by
  refine (term_Pair.calls x.f0 x.f1 ok A2 c2 x.f2 ok A3 c3 x.f3 y.f0 y.f1 ok B2 d2 y.f2 ok B3 d3 y.f3 4 0 [] [x, y] w (v2_of h) (v3_of h) (v2_of g) (v3_of g) (by unfold term_Pair.f; rw [eta_T, eta_T])).mono ?_
  rintro e w' ⟨v2, v3, rfl, h2, h3, hb⟩
  exact ⟨_, rfl, tf_of h2 h3 (fun k hk => .inr hk) (fun k hk => by rcases hk.1 with (h | h | h | h) | h <;> first | exact .inl h | exact .inr h), hb⟩
theorem enc_c (n : Int) {x y : ST} {ok : Nat → Prop} {A2 A3 B2 B3 : Option Addr} {c2 c3 d2 d3 : Nat} {w : World} (h : RowsF w ok x A2 c2 A3 c3) (g : RowsF w ok y B2 d2 B3 d3) :
    Calls Try.prog 34 #[.int .u64 n, .agg #[.int .i64 x.f0, .int .u64 x.f1, .slice A2 x.f2.length c2, .slice A3 x.f3.length c3], .agg #[.int .i64 y.f0, .int .u64 y.f1, .slice B2 y.f2.length d2, .slice B3 y.f3.length d3]] w fun e w' => ∃ v, e = .returned v ∧ TmF w' (fun k => ok k ∨ w.heap.size ≤ k) ⟨5, n, [], [x, y]⟩ v ∧ Below w.heap.size w w' := by
  refine (term_Enc.calls n x.f0 x.f1 ok A2 c2 x.f2 ok A3 c3 x.f3 y.f0 y.f1 ok B2 d2 y.f2 ok B3 d3 y.f3 5 n [] [x, y] w (v2_of h) (v3_of h) (v2_of g) (v3_of g) (by unfold term_Enc.f; rw [eta_T, eta_T])).mono ?_
  rintro e w' ⟨v2, v3, rfl, h2, h3, hb⟩
  exact ⟨_, rfl, tf_of h2 h3 (fun k hk => .inr hk) (fun k hk => by rcases hk.1 with (h | h | h | h) | h <;> first | exact .inl h | exact .inr h), hb⟩
theorem hash_c {x : ST} {ok : Nat → Prop} {A2 A3 : Option Addr} {c2 c3 : Nat} {w : World} (h : RowsF w ok x A2 c2 A3 c3) :
    Calls Try.prog 35 #[.agg #[.int .i64 x.f0, .int .u64 x.f1, .slice A2 x.f2.length c2, .slice A3 x.f3.length c3]] w fun e w' => ∃ v, e = .returned v ∧ TmF w' (fun k => ok k ∨ w.heap.size ≤ k) ⟨6, 0, [], [x]⟩ v ∧ Below w.heap.size w w' := by
  refine (term_Hash.calls x.f0 x.f1 ok A2 c2 x.f2 ok A3 c3 x.f3 6 0 [] [x] w (v2_of h) (v3_of h) (by unfold term_Hash.f; rw [eta_T])).mono ?_
  rintro e w' ⟨v2, v3, rfl, h2, h3, hb⟩
  exact ⟨_, rfl, tf_of h2 h3 (fun k hk => .inr hk) (fun k hk => by rcases hk.1 with (h | h) | h <;> first | exact .inl h | exact .inr h), hb⟩
theorem name_c (n : Int) (w : World) : Calls Try.prog 36 #[.int .u64 n] w fun e w' => ∃ v, e = .returned v ∧ TmV w' ⟨1, n, [], []⟩ v ∧ Below w.heap.size w w' := by
  refine (term_Name.calls n 1 n [] [] w rfl).mono ?_
  rintro e w' ⟨v2, v3, rfl, h2, h3, hb⟩
  exact ⟨_, rfl, tm_of h2 (Kd.R_N h3), hb⟩
theorem key_c (n : Int) (w : World) : Calls Try.prog 37 #[.int .u64 n] w fun e w' => ∃ v, e = .returned v ∧ TmV w' ⟨2, n, [], []⟩ v ∧ Below w.heap.size w w' := by
  refine (term_Key.calls n 2 n [] [] w rfl).mono ?_
  rintro e w' ⟨v2, v3, rfl, h2, h3, hb⟩
  exact ⟨_, rfl, tm_of h2 (Kd.R_N h3), hb⟩
theorem data_c {x : ST} {A2 A3 : Option Addr} {c2 c3 : Nat} {w : World} (h : RowsT w x A2 c2 A3 c3) (hu : U8 x.f2) (hl : lenT x) :
    Calls Try.prog 38 #[.slice A2 x.f2.length c2] w fun e w' => ∃ v, e = .returned v ∧ TmV w' ⟨3, 0, x.f2, []⟩ v ∧ Below w.heap.size w w' := by
  have hf : term_Data.f x.f2 = some (3, 0, x.f2, []) := by
    have := ((lenT_eq x).1 hl).1
    unfold term_Data.f
    rw [show bytes_Clone.f x.f2 = some x.f2 from if_pos (by omega)]
    rfl
  refine (term_Data.calls A2 c2 x.f2 3 0 x.f2 [] w h.1.2 h.1.1 hf).mono ?_
  rintro e w' ⟨v2, v3, rfl, h2, h3, hb⟩
  exact ⟨_, rfl, tm_of h2 (Kd.R_N h3), hb⟩
/-- A row of terms, read. -/
def LsV (w : World) (l : List ST) (v : Value) : Prop := ∃ A c, v = .slice A l.length c ∧ l.length ≤ c ∧ Kd.C k26 w A l.length l
theorem LsV.below {w w' : World} {l : List ST} {v : Value} (h : LsV w l v) (hb : Below w.heap.size w w') : LsV w' l v := by
  obtain ⟨A, c, rfl, h1, h2⟩ := h
  exact ⟨A, c, rfl, h1, Kd.C_below h2 hb⟩
theorem ls_of {w : World} {base : Nat} {ok : Nat → Prop} {l : List ST} {v : Value} (h : Kd.N k26 26 w base ok v l) : LsV w l v := by
  obtain ⟨A, c, rfl⟩ := Kd.N_slice h
  exact ⟨A, c, rfl, (Kd.N_reads' h).2.1, (Kd.N_reads' h).2.2⟩
theorem parts2_c {x : ST} (hw : wfT x) {A2 A3 : Option Addr} {c2 c3 : Nat} {w : World} (h : RowsT w x A2 c2 A3 c3) :
    Calls Try.prog 39 #[.agg #[.int .i64 x.f0, .int .u64 x.f1, .slice A2 x.f2.length c2, .slice A3 x.f3.length c3]] w fun e w' => ∃ v, e = .returned v ∧ LsV w' (partsV x) v ∧ Below w.heap.size w w' := by
  refine (parts_c (fun k => k < w.heap.size) x hw A2 c2 A3 c3 w ⟨⟨h.1.1, Kd.F_mono (Kd.C_F (Kd.heap_int .u8) h.1.2) (fun k hk => ⟨hk, hk⟩)⟩, h.2.1, Kd.F_mono (Kd.C_F k26_heap h.2.2) (fun k hk => ⟨hk, hk⟩)⟩).mono ?_
  rintro e w' ⟨v, rfl, hn, hb⟩
  exact ⟨v, rfl, ls_of hn, hb⟩
theorem rparts_c {x : ST} (hm : mayT 8 x = true) {A2 A3 : Option Addr} {c2 c3 : Nat} {w : World} (h : RowsT w x A2 c2 A3 c3) :
    Calls Try.prog 32 #[.agg #[.int .i64 x.f0, .int .u64 x.f1, .slice A2 x.f2.length c2, .slice A3 x.f3.length c3]] w fun e w' => ∃ v, e = .returned v ∧ LsV w' (partsV x) v ∧ Below w.heap.size w w' := by
  obtain ⟨k, hk⟩ := (rparts_ev 8 x (by omega) hm).rounds
  refine (hanaperref05_Parts.calls k x.f0 x.f1 _ A2 c2 x.f2 _ A3 c3 x.f3 _ w (v2_of (rowsF_of h (Below.refl _ _))) (v3_of (rowsF_of h (Below.refl _ _))) hk).mono ?_
  rintro e w' ⟨v, rfl, hn, hb⟩
  unfold partsV
  rw [if_pos hm]
  exact ⟨v, rfl, ls_of hn, hb⟩
theorem partsV_len (x : ST) : (partsV x).length ≤ 1000000 := by
  unfold partsV
  split
  · next h => have := parts_len 8 x h; omega
  · simp
theorem partsV_lenT {x : ST} (h : lenT x) : ∀ p ∈ partsV x, lenT p := by
  unfold partsV
  split
  · exact parts_lenT x h
  · simp
theorem sameall_c {x : ST} (hx : lenT x) {A B : Option Addr} {c d : Nat} {w : World} (h1 : (partsV x).length ≤ c) (h2 : Kd.C k26 w A (partsV x).length (partsV x)) (g1 : (partsV x).length ≤ d) (g2 : Kd.C k26 w B (partsV x).length (partsV x)) :
    Calls Try.prog 27 #[.slice A (partsV x).length c, .slice B (partsV x).length d] w fun e w' => e = .returned (.bool true) ∧ Below w.heap.size w w' := by
  obtain ⟨k, hk⟩ := (sameall_ev (partsV x) (partsV_len x) (partsV_lenT hx)).rounds
  exact hanaperref05_SameAll.calls k A c (partsV x) B d (partsV x) true w h2 h1 g2 g1 hk
theorem may2_c (x : ST) {A2 A3 : Option Addr} {c2 c3 : Nat} {w : World} (h : RowsT w x A2 c2 A3 c3) :
    Calls Try.prog 17 #[.agg #[.int .i64 x.f0, .int .u64 x.f1, .slice A2 x.f2.length c2, .slice A3 x.f3.length c3]] w fun e w' => e = .returned (.bool (mayT 8 x)) ∧ Below w.heap.size w w' := by
  obtain ⟨k, hk⟩ := (rMay_ev x).rounds
  exact hanaperref05_May.calls k x.f0 x.f1 A2 c2 x.f2 A3 c3 x.f3 _ w h.1.2 h.1.1 h.2.2 h.2.1 hk
theorem same2_c {x y : ST} (hx : wfT x) (hy : wfT y) {A2 A3 B2 B3 : Option Addr} {c2 c3 d2 d3 : Nat} {w : World} (h : RowsT w x A2 c2 A3 c3) (g : RowsT w y B2 d2 B3 d3) :
    Calls Try.prog 22 #[.agg #[.int .i64 x.f0, .int .u64 x.f1, .slice A2 x.f2.length c2, .slice A3 x.f3.length c3], .agg #[.int .i64 y.f0, .int .u64 y.f1, .slice B2 y.f2.length d2, .slice B3 y.f3.length d3]] w fun e w' => e = .returned (.bool (eqT x y)) ∧ Below w.heap.size w w' :=
  term_Same.calls x.f0 x.f1 A2 c2 x.f2 A3 c3 x.f3 y.f0 y.f1 B2 d2 y.f2 B3 d3 y.f3 _ w h.1.2 h.1.1 h.2.2 h.2.1 g.1.2 g.1.1 g.2.2 g.2.1 (by
    obtain ⟨a, b, c, d⟩ := x
    obtain ⟨a', b', c', d'⟩ := y
    unfold term_Same.f
    exact if_pos (by rw [Bool.and_eq_true]; exact ⟨(wfB_iff _).2 hx, (wfB_iff _).2 hy⟩))
end Go.Proofs.Ytgohmganimamcaa.Term
/- A held region whose allocs and calls come in whatever order: by what has come up so far. -/
namespace Go.Proofs.Ytgohmganimamcaa.Term
set_option linter.unusedVariables false
set_option linter.unusedSimpArgs false
open Go.RowKit Go.Proofs.Ytgohmganimamcaa.Base Go.Proofs.Ytgohmganimamcaa.TlvPlain Go.Proofs.Ytgohmganimamcaa.Lo Go.Proofs.Ytgohmganimamcaa.RdPlain Go.Proofs.Ytgohmganimamcaa.Aid Go.Proofs.Ytgohmganimamcaa.PZ Go.Proofs.YtgohmganimamcaaW.PrintWords Go.Proofs.YtgohmganimamcaaW.PrintLast Go.Proofs.YtgohmganimamcaaW.PrintMore
section
variable {P : Program} {ops : Array Oper} {Q : Exit → Act → World → Prop} {md : Region.Mode} {S : World → Prop} {J : Nat → Array Bool → Act → World → Prop}
/-- Each of the operations rs may come up next; behind it S and J hold. -/
def AllJ (P : Program) (ops : Array Oper) (Q : Exit → Act → World → Prop) (S : World → Prop) (J : Nat → Array Bool → Act → World → Prop) (n : Nat) (listed : Array Bool) (a : Act) (w : World) (rs : List Nat) : Prop :=
  ∀ i ∈ rs, wpOp P ops Q i (fun a' w' => S w' ∧ J n (listed.setIfInBounds i true) a' w') a w
theorem AllJ.nil {n : Nat} {listed : Array Bool} {a : Act} {w : World} : AllJ P ops Q S J n listed a w [] := fun _ h => by cases h
theorem AllJ.cons {n : Nat} {listed : Array Bool} {a : Act} {w : World} {i : Nat} {o : Oper} {rs : List Nat} (ho : ops[i]? = some o)
    (h : ∀ K' : Act → World → Prop, Shut (∀ a w, S w → J n (listed.setIfInBounds i true) a w → K' a w) → if Region.wanted o (yielded ops a.tmps) = true then Oper.wp P o a w K' Q else K' (a.put o.dst undef) w)
    (hs : AllJ P ops Q S J n listed a w rs) : AllJ P ops Q S J n listed a w (i :: rs) := fun j hj => by
  rcases List.mem_cons.1 hj with rfl | hj
  · exact wpOp_step ho (fun K' hK => h K' (fun a w hS hW => hK a w ⟨hS, hW⟩))
  · exact hs j hj
theorem held_inv (hstep : ∀ fuel listed a w, J fuel listed a w → wpAnyH P md ops Q S fuel listed a w ∨ ∃ n rs, fuel = n + 1 ∧ Region.ready md ops listed = rs ∧ rs ≠ [] ∧ AllJ P ops Q S J n listed a w rs) :
    ∀ fuel listed a w, J fuel listed a w → wpAnyH P md ops Q S fuel listed a w := by
  intro fuel
  induction fuel with
  | zero =>
    intro l a w h
    rcases hstep _ _ _ _ h with h | ⟨n, rs, e, _⟩
    · exact h
    · cases e
  | succ fuel ih =>
    intro l a w h
    rcases hstep _ _ _ _ h with h | ⟨n, rs, e, hr, hne, hall⟩
    · exact h
    · obtain rfl : fuel = n := by omega
      exact wpAnyH_all hr hne (fun i hi => wpOp_mono (fun a' w' h' => ⟨h'.1, ih _ _ _ h'.2⟩) (hall i hi))
theorem gen_act {Φ : Act → Prop} {a : Act} (h : ∀ a0, a0 = a → Φ a0) : Φ a := h a rfl
end
/-- A slot that may have its value by now. -/
def putO (a : Act) (n : Nat) : Option Value → Act
  | none => a
  | some v => a.put (some n) v
def ZT : Array Value := #[.int .i64 0, .int .u64 0, .slice none 0 0, .slice none 0 0]
def ptrV (p : Nat) : Value := .pointer (some ⟨p, 0, none⟩)
/-- A call's result, read apart from the boxes. -/
def ResR (w : World) (bx : Nat → Prop) (t : ST) (o : Option Value) : Prop := ∀ v, o = some v → ∃ ok, TmF w ok t v ∧ ∀ k, ok k → k < w.heap.size ∧ ¬ bx k
/-- A box that was made. -/
def NewR (w : World) (N : Nat) (o : Option Nat) : Prop := ∀ p, o = some p → Blk w p 26 ZT ∧ N ≤ p
def BxR (p8 p9 p10 : Option Nat) (k : Nat) : Prop := p8 = some k ∨ p9 = some k ∨ p10 = some k
/-- What stands while the region goes: the boxes, the rows, and what has come up. -/
def FactR (w0 : World) (x y : ST) (n : Int) (v2 v6 v8 : Option Value) (p8 p9 p10 : Option Nat) (w : World) : Prop :=
  Below w0.heap.size w0 w ∧
  (ResR w (BxR p8 p9 p10) ⟨4, 0, [], [x, y]⟩ v2 ∧ ResR w (BxR p8 p9 p10) ⟨5, n, [], [x, y]⟩ v6 ∧ ResR w (BxR p8 p9 p10) ⟨6, 0, [], [x]⟩ v8) ∧
  (NewR w w0.heap.size p8 ∧ NewR w w0.heap.size p9 ∧ NewR w w0.heap.size p10) ∧
  ((∀ p q, p8 = some p → p9 = some q → p ≠ q) ∧ (∀ p q, p8 = some p → p10 = some q → p ≠ q) ∧ (∀ p q, p9 = some p → p10 = some q → p ≠ q))
section
variable {w0 w w' : World} {x y : ST} {n : Int} {v : Value} {v2 v6 v8 : Option Value} {p8 p9 p10 : Option Nat} {bx bx' : Nat → Prop} {t : ST} {o : Option Value}
theorem ResR.below (h : ResR w bx t o) (hb : Below w.heap.size w w') : ResR w' bx t o := fun v hv => by
  obtain ⟨ok, ⟨A2, c2, A3, c3, rfl, hr⟩, hk⟩ := h v hv
  exact ⟨ok, ⟨A2, c2, A3, c3, rfl, hr.below hb⟩, fun k h => ⟨Nat.lt_of_lt_of_le (hk k h).1 hb.size, (hk k h).2⟩⟩
theorem ResR.more (h : ResR w bx t o) (hx : ∀ k, bx' k → bx k ∨ w.heap.size ≤ k) : ResR w bx' t o := fun v hv => by
  obtain ⟨ok, h1, hk⟩ := h v hv
  exact ⟨ok, h1, fun k h => ⟨(hk k h).1, fun hb => by
    rcases hx k hb with hb | hb
    · exact (hk k h).2 hb
    · have := (hk k h).1; omega⟩⟩
theorem ResR.none : ResR w bx t none := fun v hv => by cases hv
theorem ResR.some (hb : Below w.heap.size w w') {b0 : Nat} (h : TmF w' (fun k => k < b0 ∨ w.heap.size ≤ k) t v) (hx : ∀ k, bx k → b0 ≤ k ∧ k < w.heap.size) : ResR w' bx t (some v) := fun u hu => by
  injection hu with hu
  subst hu
  obtain ⟨A2, c2, A3, c3, rfl, hr⟩ := h
  refine ⟨fun k => (k < b0 ∨ w.heap.size ≤ k) ∧ k < w'.heap.size, ⟨A2, c2, A3, c3, rfl, ⟨⟨hr.1.1, Kd.F_bound hr.1.2⟩, hr.2.1, Kd.F_bound hr.2.2⟩⟩, fun k h => ⟨h.2, fun hb => ?_⟩⟩
  have := hx k hb
  have := h.1
  omega
theorem NewR.below {g : Nat} {p : Option Nat} (h : NewR w g p) (hb : Below w.heap.size w w') : NewR w' g p := fun q hq => ⟨(h q hq).1.below hb, (h q hq).2⟩
theorem NewR.none {g : Nat} : NewR w g none := fun p hp => by cases hp
theorem fact0 (x y : ST) (n : Int) (hb : Below w0.heap.size w0 w) : FactR w0 x y n none none none none none none w :=
  ⟨hb, ⟨ResR.none, ResR.none, ResR.none⟩, ⟨NewR.none, NewR.none, NewR.none⟩, ⟨fun p q hp _ => (by cases hp), ⟨fun p q hp _ => (by cases hp), fun p q hp _ => (by cases hp)⟩⟩⟩
theorem NewR.new {g : Nat} (h : g ≤ w.heap.size) : NewR (w.alloc (.cells ZT 26)) g (some w.heap.size) := fun q hq => by
  injection hq with hq
  subst hq
  exact ⟨blk_new _ _, h⟩
theorem FactR.boxed (h : FactR w0 x y n v2 v6 v8 p8 p9 p10 w) : ∀ k, BxR p8 p9 p10 k → w0.heap.size ≤ k ∧ k < w.heap.size := by
  obtain ⟨_, _, ⟨f1, f2, f3⟩, _⟩ := h
  rintro k (h | h | h)
  · have := (f1 k h).1.lt; have := (f1 k h).2; omega
  · have := (f2 k h).1.lt; have := (f2 k h).2; omega
  · have := (f3 k h).1.lt; have := (f3 k h).2; omega
theorem FactR.below (h : FactR w0 x y n v2 v6 v8 p8 p9 p10 w) (hb : Below w.heap.size w w') : FactR w0 x y n v2 v6 v8 p8 p9 p10 w' := by
  obtain ⟨a1, ⟨e1, e2, e3⟩, ⟨f1, f2, f3⟩, k⟩ := h
  exact ⟨below_step a1 hb, ⟨e1.below hb, e2.below hb, e3.below hb⟩, ⟨f1.below hb, f2.below hb, f3.below hb⟩, k⟩
theorem FactR.call2 (h : FactR w0 x y n none v6 v8 p8 p9 p10 w) (hb : Below w.heap.size w w') (ht : TmF w' (fun k => k < w0.heap.size ∨ w.heap.size ≤ k) ⟨4, 0, [], [x, y]⟩ v) : FactR w0 x y n (some v) v6 v8 p8 p9 p10 w' := by
  have hx := h.boxed
  obtain ⟨a, ⟨_, e2, e3⟩, f, k⟩ := h.below hb
  exact ⟨a, ⟨ResR.some hb ht hx, e2, e3⟩, f, k⟩
theorem FactR.call6 (h : FactR w0 x y n v2 none v8 p8 p9 p10 w) (hb : Below w.heap.size w w') (ht : TmF w' (fun k => k < w0.heap.size ∨ w.heap.size ≤ k) ⟨5, n, [], [x, y]⟩ v) : FactR w0 x y n v2 (some v) v8 p8 p9 p10 w' := by
  have hx := h.boxed
  obtain ⟨a, ⟨e1, _, e3⟩, f, k⟩ := h.below hb
  exact ⟨a, ⟨e1, ResR.some hb ht hx, e3⟩, f, k⟩
theorem FactR.call8 (h : FactR w0 x y n v2 v6 none p8 p9 p10 w) (hb : Below w.heap.size w w') (ht : TmF w' (fun k => k < w0.heap.size ∨ w.heap.size ≤ k) ⟨6, 0, [], [x]⟩ v) : FactR w0 x y n v2 v6 (some v) p8 p9 p10 w' := by
  have hx := h.boxed
  obtain ⟨a, ⟨e1, e2, _⟩, f, k⟩ := h.below hb
  exact ⟨a, ⟨e1, e2, ResR.some hb ht hx⟩, f, k⟩
theorem al_below (w : World) : Below w.heap.size w (w.alloc (.cells ZT 26)) := below_alloc (Below.refl _ _) _
theorem FactR.al8 (h : FactR w0 x y n v2 v6 v8 none p9 p10 w) : FactR w0 x y n v2 v6 v8 (some w.heap.size) p9 p10 (w.alloc (.cells ZT 26)) := by
  have hm : ∀ k, BxR (some w.heap.size) p9 p10 k → BxR none p9 p10 k ∨ w.heap.size ≤ k := by
    rintro k (h | h | h)
    · injection h with h; exact .inr (by omega)
    · exact .inl (.inr (.inl h))
    · exact .inl (.inr (.inr h))
  obtain ⟨a1, ⟨e1, e2, e3⟩, ⟨_, f2, f3⟩, _, _, k3⟩ := h
  have hb := al_below w
  refine ⟨below_step a1 hb, ⟨(e1.more hm).below hb, (e2.more hm).below hb, (e3.more hm).below hb⟩, ⟨NewR.new a1.size, f2.below hb, f3.below hb⟩, fun p q hp hq => ?_, fun p q hp hq => ?_, k3⟩
  · injection hp with hp; have := (f2 q hq).1.lt; omega
  · injection hp with hp; have := (f3 q hq).1.lt; omega
theorem FactR.al9 (h : FactR w0 x y n v2 v6 v8 p8 none p10 w) : FactR w0 x y n v2 v6 v8 p8 (some w.heap.size) p10 (w.alloc (.cells ZT 26)) := by
  have hm : ∀ k, BxR p8 (some w.heap.size) p10 k → BxR p8 none p10 k ∨ w.heap.size ≤ k := by
    rintro k (h | h | h)
    · exact .inl (.inl h)
    · injection h with h; exact .inr (by omega)
    · exact .inl (.inr (.inr h))
  obtain ⟨a1, ⟨e1, e2, e3⟩, ⟨f1, _, f3⟩, _, k2, _⟩ := h
  have hb := al_below w
  refine ⟨below_step a1 hb, ⟨(e1.more hm).below hb, (e2.more hm).below hb, (e3.more hm).below hb⟩, ⟨f1.below hb, NewR.new a1.size, f3.below hb⟩, fun p q hp hq => ?_, k2, fun p q hp hq => ?_⟩
  · injection hq with hq; have := (f1 p hp).1.lt; omega
  · injection hp with hp; have := (f3 q hq).1.lt; omega
theorem FactR.al10 (h : FactR w0 x y n v2 v6 v8 p8 p9 none w) : FactR w0 x y n v2 v6 v8 p8 p9 (some w.heap.size) (w.alloc (.cells ZT 26)) := by
  have hm : ∀ k, BxR p8 p9 (some w.heap.size) k → BxR p8 p9 none k ∨ w.heap.size ≤ k := by
    rintro k (h | h | h)
    · exact .inl (.inl h)
    · exact .inl (.inr (.inl h))
    · injection h with h; exact .inr (by omega)
  obtain ⟨a1, ⟨e1, e2, e3⟩, ⟨f1, f2, _⟩, k1, _, _⟩ := h
  have hb := al_below w
  refine ⟨below_step a1 hb, ⟨(e1.more hm).below hb, (e2.more hm).below hb, (e3.more hm).below hb⟩, ⟨f1.below hb, f2.below hb, NewR.new a1.size⟩, k1, fun p q hp hq => ?_, fun p q hp hq => ?_⟩
  · injection hq with hq; have := (f1 p hp).1.lt; omega
  · injection hq with hq; have := (f2 p hp).1.lt; omega
/-- A box that holds a term. -/
def BoxT (w : World) (p : Nat) (t : ST) : Prop := ∃ A2 c2 A3 c3, Blk w p 26 #[.int .i64 t.f0, .int .u64 t.f1, .slice A2 t.f2.length c2, .slice A3 t.f3.length c3] ∧ RowsT w t A2 c2 A3 c3
theorem BoxT.below {p : Nat} (h : BoxT w p t) (hb : Below w.heap.size w w') : BoxT w' p t := by
  obtain ⟨A2, c2, A3, c3, h1, h2⟩ := h
  exact ⟨A2, c2, A3, c3, h1.below hb, h2.below hb⟩
theorem four_cells {g T : Nat} {a b c d : Value} (h : Blk w g T #[a, b, c, d]) : w.cell? ⟨g, 0, none⟩ = some a ∧ w.cell? ⟨g, 1, none⟩ = some b ∧ w.cell? ⟨g, 2, none⟩ = some c ∧ w.cell? ⟨g, 3, none⟩ = some d := by
  refine ⟨?_, ?_, ?_, ?_⟩ <;> (rw [h.cell]; rfl)
/-- A box that is filled. -/
def fill4 (w : World) (p : Nat) (a b c d : Value) : World := (((w.setCell ⟨p, 0, none⟩ a).setCell ⟨p, 1, none⟩ b).setCell ⟨p, 2, none⟩ c).setCell ⟨p, 3, none⟩ d
theorem fill_blk {p q T : Nat} {cs : Array Value} {a b c d : Value} (h : Blk w q T cs) (hne : q ≠ p) : Blk (fill4 w p a b c d) q T cs :=
  blk_far (blk_far (blk_far (blk_far h (by dsimp only; omega) _) (by dsimp only; omega) _) (by dsimp only; omega) _) (by dsimp only; omega) _
theorem fill_rows {p : Nat} {ok : Nat → Prop} {A2 A3 : Option Addr} {c2 c3 : Nat} {a b c d : Value} (h : RowsF w ok t A2 c2 A3 c3) (hp : ¬ ok p) : RowsF (fill4 w p a b c d) ok t A2 c2 A3 c3 := by
  have hk : ∀ k, ok k → k ≠ p := fun k hk e => hp (e ▸ hk)
  exact ⟨⟨h.1.1, Kd.F_far (p := ⟨p, 3, none⟩) (Kd.F_far (p := ⟨p, 2, none⟩) (Kd.F_far (p := ⟨p, 1, none⟩) (Kd.F_far (p := ⟨p, 0, none⟩) h.1.2 hk _) hk _) hk _) hk _⟩, h.2.1, Kd.F_far (p := ⟨p, 3, none⟩) (Kd.F_far (p := ⟨p, 2, none⟩) (Kd.F_far (p := ⟨p, 1, none⟩) (Kd.F_far (p := ⟨p, 0, none⟩) h.2.2 hk _) hk _) hk _) hk _⟩
theorem fill_below {p : Nat} {a b c d : Value} (h : Below w0.heap.size w0 w) (hp : w0.heap.size ≤ p) : Below w0.heap.size w0 (fill4 w p a b c d) := below_set (below_set (below_set (below_set h hp) hp) hp) hp
end
theorem tw_c {W : World} {x y : ST} {A2 A3 B2 B3 : Option Addr} {c2 c3 d2 d3 : Nat} (h : RowsT W x A2 c2 A3 c3) (g : RowsT W y B2 d2 B3 d3) :
    Kd.C k26 (W.alloc (.cells #[.int .i64 x.f0, .int .u64 x.f1, .slice A2 x.f2.length c2, .slice A3 x.f3.length c3, .int .i64 y.f0, .int .u64 y.f1, .slice B2 y.f2.length d2, .slice B3 y.f3.length d3] 26)) (some ⟨W.heap.size, 0, none⟩) 2 [x, y] := by
  have hb := below_alloc (Below.refl W.heap.size W) (.cells #[.int .i64 x.f0, .int .u64 x.f1, .slice A2 x.f2.length c2, .slice A3 x.f3.length c3, .int .i64 y.f0, .int .u64 y.f1, .slice B2 y.f2.length d2, .slice B3 y.f3.length d3] 26)
  have hx := h.below hb
  have hy := g.below hb
  have hn : Blk (W.alloc (.cells #[.int .i64 x.f0, .int .u64 x.f1, .slice A2 x.f2.length c2, .slice A3 x.f3.length c3, .int .i64 y.f0, .int .u64 y.f1, .slice B2 y.f2.length d2, .slice B3 y.f3.length d3] 26)) W.heap.size 26 _ := blk_new W _
  refine ⟨rfl, by decide, fun _ => ⟨_, rfl, fun j p hj => ?_⟩⟩
  rcases j with _ | _ | j
  · simp only [List.getElem?_cons_zero, Option.some.injEq] at hj
    subst hj
    refine ⟨[.int .i64 x.f0, .int .u64 x.f1, .slice A2 x.f2.length c2, .slice A3 x.f3.length c3], rfl, k26_mk _ x hx.1.1 hx.1.2 hx.2.1 hx.2.2, fun i u hu => ?_⟩
    rw [add_at, Nat.zero_add]
    show World.cell? _ ⟨_, 0 * 4 + i, none⟩ = _
    rw [hn.cell]
    rcases i with _ | _ | _ | _ | i <;> first | exact hu | (simp at hu)
  · simp only [List.getElem?_cons_succ, List.getElem?_cons_zero, Option.some.injEq] at hj
    subst hj
    refine ⟨[.int .i64 y.f0, .int .u64 y.f1, .slice B2 y.f2.length d2, .slice B3 y.f3.length d3], rfl, k26_mk _ y hy.1.1 hy.1.2 hy.2.1 hy.2.2, fun i u hu => ?_⟩
    rw [add_at, Nat.zero_add]
    show World.cell? _ ⟨_, 1 * 4 + i, none⟩ = _
    rw [hn.cell]
    rcases i with _ | _ | _ | _ | i <;> first | exact hu | (simp at hu)
  · simp at hj
theorem on_c {W : World} {x : ST} {A2 A3 : Option Addr} {c2 c3 : Nat} (h : RowsT W x A2 c2 A3 c3) :
    Kd.C k26 (W.alloc (.cells #[.int .i64 x.f0, .int .u64 x.f1, .slice A2 x.f2.length c2, .slice A3 x.f3.length c3] 26)) (some ⟨W.heap.size, 0, none⟩) 1 [x] := by
  have hb := below_alloc (Below.refl W.heap.size W) (.cells #[.int .i64 x.f0, .int .u64 x.f1, .slice A2 x.f2.length c2, .slice A3 x.f3.length c3] 26)
  have hx := h.below hb
  have hn : Blk (W.alloc (.cells #[.int .i64 x.f0, .int .u64 x.f1, .slice A2 x.f2.length c2, .slice A3 x.f3.length c3] 26)) W.heap.size 26 _ := blk_new W _
  refine ⟨rfl, by decide, fun _ => ⟨_, rfl, fun j p hj => ?_⟩⟩
  rcases j with _ | j
  · simp only [List.getElem?_cons_zero, Option.some.injEq] at hj
    subst hj
    refine ⟨[.int .i64 x.f0, .int .u64 x.f1, .slice A2 x.f2.length c2, .slice A3 x.f3.length c3], rfl, k26_mk _ x hx.1.1 hx.1.2 hx.2.1 hx.2.2, fun i u hu => ?_⟩
    rw [add_at, Nat.zero_add]
    show World.cell? _ ⟨_, 0 * 4 + i, none⟩ = _
    rw [hn.cell]
    rcases i with _ | _ | _ | _ | i <;> first | exact hu | (simp at hu)
  · simp at hj
/-- A literal's rows. -/
theorem lit2 {W : World} {x y : ST} {A2 A3 B2 B3 : Option Addr} {c2 c3 d2 d3 : Nat} (k n : Int) (h : RowsT W x A2 c2 A3 c3) (g : RowsT W y B2 d2 B3 d3) :
    RowsT (W.alloc (.cells #[.int .i64 x.f0, .int .u64 x.f1, .slice A2 x.f2.length c2, .slice A3 x.f3.length c3, .int .i64 y.f0, .int .u64 y.f1, .slice B2 y.f2.length d2, .slice B3 y.f3.length d3] 26)) ⟨k, n, [], [x, y]⟩ none 0 (some ⟨W.heap.size, 0, none⟩) 2 := ⟨⟨Nat.le_refl _, Kd.C_nil _ _⟩, Nat.le_refl _, tw_c h g⟩
theorem lit1 {W : World} {x : ST} {A2 A3 : Option Addr} {c2 c3 : Nat} (k n : Int) (h : RowsT W x A2 c2 A3 c3) :
    RowsT (W.alloc (.cells #[.int .i64 x.f0, .int .u64 x.f1, .slice A2 x.f2.length c2, .slice A3 x.f3.length c3] 26)) ⟨k, n, [], [x]⟩ none 0 (some ⟨W.heap.size, 0, none⟩) 1 := ⟨⟨Nat.le_refl _, Kd.C_nil _ _⟩, Nat.le_refl _, on_c h⟩
theorem lenT_kids2 {x y : ST} (k n : Int) (hx : lenT x) (hy : lenT y) : lenT ⟨k, n, [], [x, y]⟩ := by
  rw [lenT]
  exact ⟨by simp, by simp, lenTs_of (fun p hp => by simp at hp; rcases hp with rfl | rfl <;> assumption)⟩
theorem lenT_kids1 {x : ST} (k n : Int) (hx : lenT x) : lenT ⟨k, n, [], [x]⟩ := by
  rw [lenT]
  exact ⟨by simp, by simp, lenTs_of (fun p hp => by simp at hp; rw [hp]; exact hx)⟩
theorem lenT_flat {d : List Int} (k n : Int) (h : d.length ≤ 500) : lenT ⟨k, n, d, []⟩ := by
  rw [lenT]
  exact ⟨h, by simp, by rw [lenTs]; trivial⟩
theorem same_lit2 (k n : Int) {W : World} {x y : ST} {A2 A3 B2 B3 P2 P3 : Option Addr} {c2 c3 d2 d3 s2 s3 : Nat} (hx : lenT x) (hy : lenT y) (hp : RowsT W ⟨k, n, [], [x, y]⟩ P2 s2 P3 s3) (h : RowsT W x A2 c2 A3 c3) (g : RowsT W y B2 d2 B3 d3) :
    Calls Try.prog 20 #[.agg #[.int .i64 k, .int .u64 n, .slice P2 0 s2, .slice P3 2 s3], .agg #[.int .i64 k, .int .u64 n, .slice none 0 0, .slice (some ⟨W.heap.size, 0, none⟩) 2 2]]
      (W.alloc (.cells #[.int .i64 x.f0, .int .u64 x.f1, .slice A2 x.f2.length c2, .slice A3 x.f3.length c3, .int .i64 y.f0, .int .u64 y.f1, .slice B2 y.f2.length d2, .slice B3 y.f3.length d3] 26)) fun e w' => e = .returned (.bool true) ∧ Below W.heap.size W w' := by
  have hb := below_alloc (Below.refl W.heap.size W) (.cells #[.int .i64 x.f0, .int .u64 x.f1, .slice A2 x.f2.length c2, .slice A3 x.f3.length c3, .int .i64 y.f0, .int .u64 y.f1, .slice B2 y.f2.length d2, .slice B3 y.f3.length d3] 26)
  have hc := rsame_c ⟨k, n, [], [x, y]⟩ ⟨k, n, [], [x, y]⟩ (lenT_kids2 k n hx hy) P2 s2 P3 s3 none 0 (some ⟨W.heap.size, 0, none⟩) 2 _ (hp.below hb) (lit2 k n h g)
  rw [eqT_refl] at hc
  refine hc.mono ?_
  rintro e w' ⟨rfl, hb2⟩
  exact ⟨rfl, below_step hb hb2⟩
theorem same_lit1 (k n : Int) {W : World} {x : ST} {A2 A3 P2 P3 : Option Addr} {c2 c3 s2 s3 : Nat} (hx : lenT x) (hp : RowsT W ⟨k, n, [], [x]⟩ P2 s2 P3 s3) (h : RowsT W x A2 c2 A3 c3) :
    Calls Try.prog 20 #[.agg #[.int .i64 k, .int .u64 n, .slice P2 0 s2, .slice P3 1 s3], .agg #[.int .i64 k, .int .u64 n, .slice none 0 0, .slice (some ⟨W.heap.size, 0, none⟩) 1 1]]
      (W.alloc (.cells #[.int .i64 x.f0, .int .u64 x.f1, .slice A2 x.f2.length c2, .slice A3 x.f3.length c3] 26)) fun e w' => e = .returned (.bool true) ∧ Below W.heap.size W w' := by
  have hb := below_alloc (Below.refl W.heap.size W) (.cells #[.int .i64 x.f0, .int .u64 x.f1, .slice A2 x.f2.length c2, .slice A3 x.f3.length c3] 26)
  have hc := rsame_c ⟨k, n, [], [x]⟩ ⟨k, n, [], [x]⟩ (lenT_kids1 k n hx) P2 s2 P3 s3 none 0 (some ⟨W.heap.size, 0, none⟩) 1 _ (hp.below hb) (lit1 k n h)
  rw [eqT_refl] at hc
  refine hc.mono ?_
  rintro e w' ⟨rfl, hb2⟩
  exact ⟨rfl, below_step hb hb2⟩
theorem same_flat (k n : Int) {W : World} {P2 P3 : Option Addr} {s2 s3 : Nat} (hp : RowsT W ⟨k, n, [], []⟩ P2 s2 P3 s3) :
    Calls Try.prog 20 #[.agg #[.int .i64 k, .int .u64 n, .slice P2 0 s2, .slice P3 0 s3], .agg #[.int .i64 k, .int .u64 n, .slice none 0 0, .slice none 0 0]] W fun e w' => e = .returned (.bool true) ∧ Below W.heap.size W w' := by
  have hc := rsame_c ⟨k, n, [], []⟩ ⟨k, n, [], []⟩ (lenT_flat k n (by simp)) P2 s2 P3 s3 none 0 none 0 W hp ⟨⟨Nat.le_refl _, Kd.C_nil _ _⟩, Nat.le_refl _, Kd.C_nil _ _⟩
  rw [eqT_refl] at hc
  exact hc
theorem same_data {W : World} {x : ST} (hx : lenT x) {A2 A3 P2 P3 : Option Addr} {c2 c3 s2 s3 : Nat} (hp : RowsT W ⟨3, 0, x.f2, []⟩ P2 s2 P3 s3) (h : RowsT W x A2 c2 A3 c3) :
    Calls Try.prog 20 #[.agg #[.int .i64 3, .int .u64 0, .slice P2 x.f2.length s2, .slice P3 0 s3], .agg #[.int .i64 3, .int .u64 0, .slice A2 x.f2.length c2, .slice none 0 0]] W fun e w' => e = .returned (.bool true) ∧ Below W.heap.size W w' := by
  have hc := rsame_c ⟨3, 0, x.f2, []⟩ ⟨3, 0, x.f2, []⟩ (lenT_flat 3 0 ((lenT_eq x).1 hx).1) P2 s2 P3 s3 A2 c2 none 0 W hp ⟨⟨h.1.1, h.1.2⟩, Nat.le_refl _, Kd.C_nil _ _⟩
  rw [eqT_refl] at hc
  exact hc
end Go.Proofs.Ytgohmganimamcaa.Term
