/- Own and printed texts, laid together. -/
import Derived.Test.YtgdpabedlghiaaaSpPC
import Derived.Test.YtgdpabedlghiaaaSpPA
/- A scope's bytes. -/
namespace Go.Proofs.Ytgdpabedlghiaaa.Scope
set_option linter.unusedVariables false
set_option linter.unusedSimpArgs false
open Go.RowKit Go.Proofs.YtgdpabedlghiaaaW.PrintWords Go.Proofs.Ytgdpabedlghiaaa.PZ Go.Proofs.Ytgdpabedlghiaaa.Aid Go.Proofs.Ytgdpabedlghiaaa.Lo
def headS (op : Int) (nm : ByteArray) (fr to_ : Int) (n : Nat) : List Int := if namedB op = true then textB (bytesOf nm) else if op = 5 then intB fr ++ intB to_ else if op = 6 ∨ op = 7 then intB (n : Int) else []
mutual
/-- A scope's bytes. -/
def putS : S40 → List Int
  | ⟨op, nm, fr, to_, kids⟩ => (op % 256) :: (headS op nm fr to_ kids.length ++ putL kids)
def putL : List S40 → List Int
  | [] => []
  | k :: ks => putS k ++ putL ks
end
theorem put_eq (x : S40) : putS x = (x.f0 % 256) :: (headS x.f0 x.f1 x.f2 x.f3 x.f4.length ++ putL x.f4) := by obtain ⟨_, _, _, _, _⟩ := x; rw [putS]
theorem intB_len (n : Int) : (intB n).length ≤ 9 := numB_len (u64_range n).2
theorem head_len (op : Int) (nm : ByteArray) (fr to_ : Int) (n : Nat) (h : nm.size ≤ 100) : (headS op nm fr to_ n).length ≤ 109 := by
  unfold headS
  by_cases c1 : namedB op = true
  · rw [if_pos c1, textB, List.length_append, bytesOf_length]
    have := numB_len (n := (nm.size : Int)) (by omega)
    omega
  · rw [if_neg c1]
    by_cases c2 : op = 5
    · rw [if_pos c2, List.length_append]
      have := intB_len fr
      have := intB_len to_
      omega
    · rw [if_neg c2]
      by_cases c3 : op = 6 ∨ op = 7
      · rw [if_pos c3]
        have := intB_len (n : Int)
        omega
      · rw [if_neg c3]; simp
theorem putL_len : ∀ (ks : List S40), (∀ k ∈ ks, (putS k).length ≤ 110 * nodes k) → (putL ks).length ≤ 110 * nodesL ks
  | [], _ => by simp [putL]
  | k :: ks, h => by
    rw [putL, nodesL, List.length_append]
    have := h k (List.mem_cons_self)
    have := putL_len ks (fun k hk => h k (List.mem_cons_of_mem _ hk))
    omega
theorem put_len : ∀ (n : Nat) (x : S40), SizeOf.sizeOf x < n → short x → (putS x).length ≤ 110 * nodes x := by
  intro n
  induction n with
  | zero => intro x h; exact absurd h (by omega)
  | succ n ih =>
    intro x hn hs
    have hs2 := (short_eq x).1 hs
    rw [put_eq, nodes_eq, List.length_cons, List.length_append]
    have := head_len x.f0 x.f1 x.f2 x.f3 x.f4.length hs2.1
    have := putL_len x.f4 (fun k hk => ih k (by have := kid_lt hk; omega) (shortL_mem hs2.2 hk))
    omega
theorem nodesL_drop (ks : List S40) (i : Nat) (h : i < ks.length) : nodesL (ks.drop i) = nodes ks[i] + nodesL (ks.drop (i + 1)) := by
  rw [List.drop_eq_getElem_cons h, nodesL]
theorem put_loop (kids : List S40) (hs : shortL kids) (hl : kids.length ≤ 60)
    (ih : ∀ k ∈ kids, Ev (fun n => scope_put.f n k.f0 k.f1 k.f2 k.f3 k.f4) (putS k)) :
    ∀ (j i : Nat) (acc : List Int), i + j = kids.length → acc.length + 110 * nodesL (kids.drop i) < 140737488355328 →
      Ev (fun n => scope_put.l0 n acc kids (kids.length : Int) (i : Int)) (acc ++ putL (kids.drop i)) := by
  intro j
  induction j with
  | zero =>
    intro i acc hi hb
    refine Ev.step (fun k => by simp only [scope_put.l0]; rfl) (neg (by omega) (now ?_))
    rw [List.drop_eq_nil_of_le (by omega), putL, List.append_nil]
  | succ j ih2 =>
    intro i acc hi hb
    have hlt : i < kids.length := by omega
    rw [nodesL_drop kids i hlt] at hb
    have hk := List.getElem_mem hlt
    have hp := put_len _ kids[i] (Nat.lt_succ_self _) (shortL_mem hs hk)
    refine Ev.step (fun k => by simp only [scope_put.l0]; rfl) (pos (by omega) (pos (by omega) (pos (by omega) ?_)))
    rw [rd_at kids i hlt]
    refine evBind (ih kids[i] hk) (pos (by omega) ?_)
    rw [show wrap64 ((i : Int) + 1) = ((i + 1 : Nat) : Int) from inc hlt (by omega)]
    have h := ih2 (i + 1) (acc ++ putS kids[i]) (by omega) (by rw [List.length_append]; omega)
    rw [List.drop_eq_getElem_cons hlt, putL, ← List.append_assoc]
    exact h
theorem put_ev : ∀ (n : Nat) (x : S40), SizeOf.sizeOf x < n → short x → nodes x ≤ 60 → Ev (fun k => scope_put.f k x.f0 x.f1 x.f2 x.f3 x.f4) (putS x) := by
  intro n
  induction n with
  | zero => intro x h; exact absurd h (by omega)
  | succ n ih =>
    intro x hn hs hN
    have hs2 := (short_eq x).1 hs
    have hN2 : nodesL x.f4 < 60 := by rw [nodes_eq] at hN; omega
    have hlen := len_nodes x.f4
    have hL : ∀ acc : List Int, acc.length ≤ 1000 → Ev (fun n => scope_put.j0 n acc x.f0 x.f1 x.f2 x.f3 x.f4) (acc ++ putL x.f4) := fun acc ha => by
      have h := put_loop x.f4 hs2.2 (by omega) (fun k hk => ih k (by have := kid_lt hk; omega) (shortL_mem hs2.2 hk) (by have := node_le hk; omega)) x.f4.length 0 acc (by omega) (by rw [List.drop_zero]; omega)
      rw [List.drop_zero] at h
      exact Ev.step (fun k => by simp only [scope_put.j0]; rfl) h
    have hh := head_len x.f0 x.f1 x.f2 x.f3 x.f4.length hs2.1
    rw [put_eq]
    refine Ev.step (fun k => by simp only [scope_put.f, Option.bind_some, named_v]; rfl) ?_
    unfold headS at hh ⊢
    by_cases c1 : namedB x.f0 = true
    · rw [if_pos c1] at hh ⊢
      refine pos c1 (bindSome (show tlv_TextS.f x.f1 = some (textB (bytesOf x.f1)) from if_pos (by omega)) (pos (by simp only [List.length_cons, List.length_nil]; omega) ?_))
      exact hL _ (by simp only [List.length_append, List.length_cons, List.length_nil]; omega)
    · rw [if_neg c1] at hh ⊢
      refine neg c1 ?_
      by_cases c5 : x.f0 = 5
      · rw [if_pos c5] at hh ⊢
        refine pos c5 (evBind (int_ev x.f2) (evBind (int_ev x.f3) (evBind (all_ev _ ?_ ?_) ?_)))
        · simp
        · simp only [List.flatten_cons, List.flatten_nil, List.append_nil, List.length_append, List.length_cons, List.length_nil]
          rw [List.length_append] at hh
          omega
        · simp only [List.flatten_cons, List.flatten_nil, List.append_nil]
          have h := hL ([x.f0 % 256] ++ (intB x.f2 ++ intB x.f3)) (by rw [List.length_append]; simp only [List.length_cons, List.length_nil]; omega)
          simpa using h
      · rw [if_neg c5] at hh ⊢
        refine neg c5 ?_
        by_cases c6 : x.f0 = 6
        · rw [if_pos (Or.inl c6)] at hh ⊢
          exact pos c6 (evBind (int_ev _) (pos (by simp only [List.length_cons, List.length_nil]; omega) (hL _ (by simp only [List.length_append, List.length_cons, List.length_nil]; omega))))
        · refine neg c6 ?_
          by_cases c7 : x.f0 = 7
          · rw [if_pos (Or.inr c7)] at hh ⊢
            exact pos c7 (evBind (int_ev _) (pos (by simp only [List.length_cons, List.length_nil]; omega) (hL _ (by simp only [List.length_append, List.length_cons, List.length_nil]; omega))))
          · rw [if_neg (by omega)]
            exact neg c7 (hL _ (by simp))
/-- What Put answers. -/
theorem Put_ev (x : S40) (hs : short x) (hN : nodes x ≤ 60) : Ev (fun k => scope_Put.f k x.f0 x.f1 x.f2 x.f3 x.f4) (if mayB x = true then (putS x, 0) else ([], 1)) := by
  unfold scope_Put.f
  refine bindSome (show scope_Check.f x.f0 x.f1 x.f2 x.f3 x.f4 = some (if mayB x = true then 0 else 1) by obtain ⟨_, _, _, _, _⟩ := x; rfl) ?_
  by_cases c : mayB x = true
  · rw [if_pos c, if_pos c]
    exact pos rfl (evBind (put_ev _ x (Nat.lt_succ_self _) hs hN) (now rfl))
  · rw [if_neg c, if_neg c]
    exact neg (by decide) (now rfl)
end Go.Proofs.Ytgdpabedlghiaaa.Scope
-- printed for this claim by a program (pall.sh)
namespace Go.Proofs.Ytgdpabedlghiaaa.PZ
open Go.RowKit Go.Proofs.YtgdpabedlghiaaaW.PrintWords Go.Proofs.YtgdpabedlghiaaaW.PrintLast Go.Proofs.YtgdpabedlghiaaaW.PrintMore
attribute [local go_sem] max2_int min2_int max_two min_two max_three min_three max_four min_four   -- for this text's walks alone
set_option linter.unusedVariables false
set_option linter.unusedSimpArgs false

/-! ### hanaperref12_Name: function 22 -/
def hanaperref12_Name.l0 : Nat → ByteArray → Int → Option (Bool)
  | 0, _, _ => none
  | k + 1, x0, x3 => if x3 < (x0.size : Int) then (if 0 ≤ x3 then (if (bt x0 x3) < 97 then (if (bt x0 x3) < 48 then (if (bt x0 x3) = 46 then (hanaperref12_Name.l0 k x0 (wrap64 (x3 + 1))) else (if (bt x0 x3) = 45 then (hanaperref12_Name.l0 k x0 (wrap64 (x3 + 1))) else (if (bt x0 x3) = 95 then (hanaperref12_Name.l0 k x0 (wrap64 (x3 + 1))) else (some false)))) else (if (bt x0 x3) > 57 then (if (bt x0 x3) = 46 then (hanaperref12_Name.l0 k x0 (wrap64 (x3 + 1))) else (if (bt x0 x3) = 45 then (hanaperref12_Name.l0 k x0 (wrap64 (x3 + 1))) else (if (bt x0 x3) = 95 then (hanaperref12_Name.l0 k x0 (wrap64 (x3 + 1))) else (some false)))) else (hanaperref12_Name.l0 k x0 (wrap64 (x3 + 1))))) else (if (bt x0 x3) > 122 then (if (bt x0 x3) < 48 then (if (bt x0 x3) = 46 then (hanaperref12_Name.l0 k x0 (wrap64 (x3 + 1))) else (if (bt x0 x3) = 45 then (hanaperref12_Name.l0 k x0 (wrap64 (x3 + 1))) else (if (bt x0 x3) = 95 then (hanaperref12_Name.l0 k x0 (wrap64 (x3 + 1))) else (some false)))) else (if (bt x0 x3) > 57 then (if (bt x0 x3) = 46 then (hanaperref12_Name.l0 k x0 (wrap64 (x3 + 1))) else (if (bt x0 x3) = 45 then (hanaperref12_Name.l0 k x0 (wrap64 (x3 + 1))) else (if (bt x0 x3) = 95 then (hanaperref12_Name.l0 k x0 (wrap64 (x3 + 1))) else (some false)))) else (hanaperref12_Name.l0 k x0 (wrap64 (x3 + 1))))) else (hanaperref12_Name.l0 k x0 (wrap64 (x3 + 1))))) else (none)) else (if (x0.size : Int) ≥ 1 then (some (decide ((x0.size : Int) ≤ 16))) else (some false))
def hanaperref12_Name.f (k : Nat) (a0 : ByteArray) : Option (Bool) := hanaperref12_Name.l0 k a0 0
theorem hanaperref12_Name.mono_l : ∀ k, (∀ y0 y1, LeO (hanaperref12_Name.l0 k y0 y1) (hanaperref12_Name.l0 (k + 1) y0 y1))
  | 0 => fun _ _ r h => by simp [hanaperref12_Name.l0] at h
  | k + 1 => by
    have ih0 := hanaperref12_Name.mono_l k
    · intro y0 y1
      unfold hanaperref12_Name.l0
      repeat' first
      | (with_reducible exact ih0 _ _)
      | (with_reducible exact LeO.refl _)
      | (with_reducible exact LeO.none _)
      | (with_reducible refine LeO.ite ?_ ?_)
      | (with_reducible refine LeO.bind ?_ (fun _ => ?_))
      | exact ih0 _ _
      | exact LeO.none _
      | refine LeO.ite ?_ ?_
      | refine LeO.bind ?_ (fun _ => ?_)
theorem hanaperref12_Name.mono : ∀ a0 k, LeO (hanaperref12_Name.f k a0) (hanaperref12_Name.f (k + 1) a0) := by
  intro a0 k
  have ih0 := hanaperref12_Name.mono_l k
  unfold hanaperref12_Name.f
  repeat' first
      | (with_reducible exact ih0 _ _)
      | (with_reducible exact LeO.refl _)
      | (with_reducible exact LeO.none _)
      | (with_reducible refine LeO.ite ?_ ?_)
      | (with_reducible refine LeO.bind ?_ (fun _ => ?_))
      | exact ih0 _ _
      | exact LeO.none _
      | refine LeO.ite ?_ ?_
      | refine LeO.bind ?_ (fun _ => ?_)
set_option maxHeartbeats 8000000 in
set_option maxRecDepth 100000 in
theorem hanaperref12_Name.calls (k : Nat) (a0 : ByteArray) (r : Bool) (w : World) (h : hanaperref12_Name.f k a0 = some r) :
    Calls Try.prog 22 #[.string a0] w fun e w' => e = .returned (.bool r) ∧ Drawn0 w w' := by
  have H : (hanaperref12_Name.l0 k a0 0) = some r := h
  clear h
  have H' := Aside0.mk H
  clear H
  go_enter Try.func22, Try.ntmps22
  go_wp2
  go_loopg [3] k (fun kq v3 w' => ∃ (x3_1 : Int), v3 = .int .i64 x3_1 ∧ Aside0 (hanaperref12_Name.l0 kq a0 x3_1 = some r) ∧ Aside0 (kq ≤ k) ∧ Drawn0 w w')
  case atStart => exact ⟨(0), (by first | rfl | (simp; done) | (simp [*]; done)), H', ⟨Nat.le_refl _⟩, by repeat (first | exact Drawn0.refl _ | apply Drawn0.step)⟩
  case round =>
    clear H'
    obtain ⟨x3_1, rfl, HA, HK1, ⟨m1, rfl⟩⟩ := hrel
    cases gk with
    | zero => exact absurd HA.out (by simp [hanaperref12_Name.l0])
    | succ k1 =>
      have H := HA.out
      clear HA
      simp only [hanaperref12_Name.l0] at H
      by_cases c2 : x3_1 < (a0.size : Int)
      · rw [if_pos c2] at H
        have c2b0 : decide (x3_1 < (a0.size : Int)) = true := decide_eq_true c2
        clear c2
        by_cases c3 : 0 ≤ x3_1
        · rw [if_pos c3] at H
          have c3b0 : decide (0 ≤ x3_1) = true := decide_eq_true c3
          clear c3
          by_cases c5 : (bt a0 x3_1) < 97
          · rw [if_pos c5] at H
            have c5b0 : decide ((bt a0 x3_1) < 97) = true := decide_eq_true c5
            clear c5
            by_cases c6 : (bt a0 x3_1) < 48
            · rw [if_pos c6] at H
              have c6b0 : decide ((bt a0 x3_1) < 48) = true := decide_eq_true c6
              clear c6
              by_cases c7 : (bt a0 x3_1) = 46
              · rw [if_pos c7] at H
                have c7b0 : ((bt a0 x3_1) == 46) = true := beq_iff_eq.mpr c7
                have c7b1 : ((bt a0 x3_1) != 46) = false := bne_eq_false_iff_eq.mpr c7
                clear c7
                have H' := Aside0.mk H
                clear H
                have p4 : 0 ≤ (x3_1 : Int) := of_decide_eq_true (by first | (with_reducible assumption) | assumption)
                have q4 : x3_1 < (a0.size : Int) := of_decide_eq_true (by first | (with_reducible assumption) | assumption)
                have hx4 := bt_at a0 x3_1
                replace p4 := eq_true p4
                replace q4 := eq_true q4
                go_wp2
                go_roundg k1
                case measure => have := HK1.out; omega
                case rel => exact ⟨(wrap64 (x3_1 + 1)), (by first | rfl | (simp; done) | (simp [*]; done)), H', ⟨by have := HK1.out; omega⟩, by repeat (first | exact Drawn0.refl _ | apply Drawn0.step)⟩
              · rw [if_neg c7] at H
                have c7b0 : ((bt a0 x3_1) == 46) = false := beq_eq_false_iff_ne.mpr c7
                have c7b1 : ((bt a0 x3_1) != 46) = true := bne_iff_ne.mpr c7
                by_cases c8 : (bt a0 x3_1) = 45
                · rw [if_pos c8] at H
                  have c8b0 : ((bt a0 x3_1) == 45) = true := beq_iff_eq.mpr c8
                  have c8b1 : ((bt a0 x3_1) != 45) = false := bne_eq_false_iff_eq.mpr c8
                  clear c8
                  have H' := Aside0.mk H
                  clear H
                  have p4 : 0 ≤ (x3_1 : Int) := of_decide_eq_true (by first | (with_reducible assumption) | assumption)
                  have q4 : x3_1 < (a0.size : Int) := of_decide_eq_true (by first | (with_reducible assumption) | assumption)
                  have hx4 := bt_at a0 x3_1
                  replace p4 := eq_true p4
                  replace q4 := eq_true q4
                  go_wp2
                  go_roundg k1
                  case measure => have := HK1.out; omega
                  case rel => exact ⟨(wrap64 (x3_1 + 1)), (by first | rfl | (simp; done) | (simp [*]; done)), H', ⟨by have := HK1.out; omega⟩, by repeat (first | exact Drawn0.refl _ | apply Drawn0.step)⟩
                · rw [if_neg c8] at H
                  have c8b0 : ((bt a0 x3_1) == 45) = false := beq_eq_false_iff_ne.mpr c8
                  have c8b1 : ((bt a0 x3_1) != 45) = true := bne_iff_ne.mpr c8
                  by_cases c9 : (bt a0 x3_1) = 95
                  · rw [if_pos c9] at H
                    have c9b0 : ((bt a0 x3_1) == 95) = true := beq_iff_eq.mpr c9
                    have c9b1 : ((bt a0 x3_1) != 95) = false := bne_eq_false_iff_eq.mpr c9
                    clear c9
                    have H' := Aside0.mk H
                    clear H
                    have p4 : 0 ≤ (x3_1 : Int) := of_decide_eq_true (by first | (with_reducible assumption) | assumption)
                    have q4 : x3_1 < (a0.size : Int) := of_decide_eq_true (by first | (with_reducible assumption) | assumption)
                    have hx4 := bt_at a0 x3_1
                    replace p4 := eq_true p4
                    replace q4 := eq_true q4
                    go_wp2
                    go_roundg k1
                    case measure => have := HK1.out; omega
                    case rel => exact ⟨(wrap64 (x3_1 + 1)), (by first | rfl | (simp; done) | (simp [*]; done)), H', ⟨by have := HK1.out; omega⟩, by repeat (first | exact Drawn0.refl _ | apply Drawn0.step)⟩
                  · rw [if_neg c9] at H
                    have c9b0 : ((bt a0 x3_1) == 95) = false := beq_eq_false_iff_ne.mpr c9
                    have c9b1 : ((bt a0 x3_1) != 95) = true := bne_iff_ne.mpr c9
                    obtain rfl := Option.some.inj H
                    have p4 : 0 ≤ (x3_1 : Int) := of_decide_eq_true (by first | (with_reducible assumption) | assumption)
                    have q4 : x3_1 < (a0.size : Int) := of_decide_eq_true (by first | (with_reducible assumption) | assumption)
                    have hx4 := bt_at a0 x3_1
                    replace p4 := eq_true p4
                    replace q4 := eq_true q4
                    go_wp2
                    go_ret
                    exact ⟨by first | rfl | (simp; done) | (simp [*]; done), by repeat (first | exact Drawn0.refl _ | apply Drawn0.step)⟩
            · rw [if_neg c6] at H
              have c6b0 : decide ((bt a0 x3_1) < 48) = false := decide_eq_false c6
              clear c6
              by_cases c10 : (bt a0 x3_1) > 57
              · rw [if_pos c10] at H
                have c10b0 : decide (57 < (bt a0 x3_1)) = true := decide_eq_true c10
                clear c10
                by_cases c11 : (bt a0 x3_1) = 46
                · rw [if_pos c11] at H
                  have c11b0 : ((bt a0 x3_1) == 46) = true := beq_iff_eq.mpr c11
                  have c11b1 : ((bt a0 x3_1) != 46) = false := bne_eq_false_iff_eq.mpr c11
                  clear c11
                  have H' := Aside0.mk H
                  clear H
                  have p4 : 0 ≤ (x3_1 : Int) := of_decide_eq_true (by first | (with_reducible assumption) | assumption)
                  have q4 : x3_1 < (a0.size : Int) := of_decide_eq_true (by first | (with_reducible assumption) | assumption)
                  have hx4 := bt_at a0 x3_1
                  replace p4 := eq_true p4
                  replace q4 := eq_true q4
                  go_wp2
                  go_roundg k1
                  case measure => have := HK1.out; omega
                  case rel => exact ⟨(wrap64 (x3_1 + 1)), (by first | rfl | (simp; done) | (simp [*]; done)), H', ⟨by have := HK1.out; omega⟩, by repeat (first | exact Drawn0.refl _ | apply Drawn0.step)⟩
                · rw [if_neg c11] at H
                  have c11b0 : ((bt a0 x3_1) == 46) = false := beq_eq_false_iff_ne.mpr c11
                  have c11b1 : ((bt a0 x3_1) != 46) = true := bne_iff_ne.mpr c11
                  by_cases c12 : (bt a0 x3_1) = 45
                  · rw [if_pos c12] at H
                    have c12b0 : ((bt a0 x3_1) == 45) = true := beq_iff_eq.mpr c12
                    have c12b1 : ((bt a0 x3_1) != 45) = false := bne_eq_false_iff_eq.mpr c12
                    clear c12
                    have H' := Aside0.mk H
                    clear H
                    have p4 : 0 ≤ (x3_1 : Int) := of_decide_eq_true (by first | (with_reducible assumption) | assumption)
                    have q4 : x3_1 < (a0.size : Int) := of_decide_eq_true (by first | (with_reducible assumption) | assumption)
                    have hx4 := bt_at a0 x3_1
                    replace p4 := eq_true p4
                    replace q4 := eq_true q4
                    go_wp2
                    go_roundg k1
                    case measure => have := HK1.out; omega
                    case rel => exact ⟨(wrap64 (x3_1 + 1)), (by first | rfl | (simp; done) | (simp [*]; done)), H', ⟨by have := HK1.out; omega⟩, by repeat (first | exact Drawn0.refl _ | apply Drawn0.step)⟩
                  · rw [if_neg c12] at H
                    have c12b0 : ((bt a0 x3_1) == 45) = false := beq_eq_false_iff_ne.mpr c12
                    have c12b1 : ((bt a0 x3_1) != 45) = true := bne_iff_ne.mpr c12
                    by_cases c13 : (bt a0 x3_1) = 95
                    · rw [if_pos c13] at H
                      have c13b0 : ((bt a0 x3_1) == 95) = true := beq_iff_eq.mpr c13
                      have c13b1 : ((bt a0 x3_1) != 95) = false := bne_eq_false_iff_eq.mpr c13
                      clear c13
                      have H' := Aside0.mk H
                      clear H
                      have p4 : 0 ≤ (x3_1 : Int) := of_decide_eq_true (by first | (with_reducible assumption) | assumption)
                      have q4 : x3_1 < (a0.size : Int) := of_decide_eq_true (by first | (with_reducible assumption) | assumption)
                      have hx4 := bt_at a0 x3_1
                      replace p4 := eq_true p4
                      replace q4 := eq_true q4
                      go_wp2
                      go_roundg k1
                      case measure => have := HK1.out; omega
                      case rel => exact ⟨(wrap64 (x3_1 + 1)), (by first | rfl | (simp; done) | (simp [*]; done)), H', ⟨by have := HK1.out; omega⟩, by repeat (first | exact Drawn0.refl _ | apply Drawn0.step)⟩
                    · rw [if_neg c13] at H
                      have c13b0 : ((bt a0 x3_1) == 95) = false := beq_eq_false_iff_ne.mpr c13
                      have c13b1 : ((bt a0 x3_1) != 95) = true := bne_iff_ne.mpr c13
                      obtain rfl := Option.some.inj H
                      have p4 : 0 ≤ (x3_1 : Int) := of_decide_eq_true (by first | (with_reducible assumption) | assumption)
                      have q4 : x3_1 < (a0.size : Int) := of_decide_eq_true (by first | (with_reducible assumption) | assumption)
                      have hx4 := bt_at a0 x3_1
                      replace p4 := eq_true p4
                      replace q4 := eq_true q4
                      go_wp2
                      go_ret
                      exact ⟨by first | rfl | (simp; done) | (simp [*]; done), by repeat (first | exact Drawn0.refl _ | apply Drawn0.step)⟩
              · rw [if_neg c10] at H
                have c10b0 : decide (57 < (bt a0 x3_1)) = false := decide_eq_false c10
                clear c10
                have H' := Aside0.mk H
                clear H
                have p4 : 0 ≤ (x3_1 : Int) := of_decide_eq_true (by first | (with_reducible assumption) | assumption)
                have q4 : x3_1 < (a0.size : Int) := of_decide_eq_true (by first | (with_reducible assumption) | assumption)
                have hx4 := bt_at a0 x3_1
                replace p4 := eq_true p4
                replace q4 := eq_true q4
                go_wp2
                go_roundg k1
                case measure => have := HK1.out; omega
                case rel => exact ⟨(wrap64 (x3_1 + 1)), (by first | rfl | (simp; done) | (simp [*]; done)), H', ⟨by have := HK1.out; omega⟩, by repeat (first | exact Drawn0.refl _ | apply Drawn0.step)⟩
          · rw [if_neg c5] at H
            have c5b0 : decide ((bt a0 x3_1) < 97) = false := decide_eq_false c5
            clear c5
            by_cases c14 : (bt a0 x3_1) > 122
            · rw [if_pos c14] at H
              have c14b0 : decide (122 < (bt a0 x3_1)) = true := decide_eq_true c14
              clear c14
              by_cases c15 : (bt a0 x3_1) < 48
              · rw [if_pos c15] at H
                have c15b0 : decide ((bt a0 x3_1) < 48) = true := decide_eq_true c15
                clear c15
                by_cases c16 : (bt a0 x3_1) = 46
                · rw [if_pos c16] at H
                  have c16b0 : ((bt a0 x3_1) == 46) = true := beq_iff_eq.mpr c16
                  have c16b1 : ((bt a0 x3_1) != 46) = false := bne_eq_false_iff_eq.mpr c16
                  clear c16
                  have H' := Aside0.mk H
                  clear H
                  have p4 : 0 ≤ (x3_1 : Int) := of_decide_eq_true (by first | (with_reducible assumption) | assumption)
                  have q4 : x3_1 < (a0.size : Int) := of_decide_eq_true (by first | (with_reducible assumption) | assumption)
                  have hx4 := bt_at a0 x3_1
                  replace p4 := eq_true p4
                  replace q4 := eq_true q4
                  go_wp2
                  go_roundg k1
                  case measure => have := HK1.out; omega
                  case rel => exact ⟨(wrap64 (x3_1 + 1)), (by first | rfl | (simp; done) | (simp [*]; done)), H', ⟨by have := HK1.out; omega⟩, by repeat (first | exact Drawn0.refl _ | apply Drawn0.step)⟩
                · rw [if_neg c16] at H
                  have c16b0 : ((bt a0 x3_1) == 46) = false := beq_eq_false_iff_ne.mpr c16
                  have c16b1 : ((bt a0 x3_1) != 46) = true := bne_iff_ne.mpr c16
                  by_cases c17 : (bt a0 x3_1) = 45
                  · rw [if_pos c17] at H
                    have c17b0 : ((bt a0 x3_1) == 45) = true := beq_iff_eq.mpr c17
                    have c17b1 : ((bt a0 x3_1) != 45) = false := bne_eq_false_iff_eq.mpr c17
                    clear c17
                    have H' := Aside0.mk H
                    clear H
                    have p4 : 0 ≤ (x3_1 : Int) := of_decide_eq_true (by first | (with_reducible assumption) | assumption)
                    have q4 : x3_1 < (a0.size : Int) := of_decide_eq_true (by first | (with_reducible assumption) | assumption)
                    have hx4 := bt_at a0 x3_1
                    replace p4 := eq_true p4
                    replace q4 := eq_true q4
                    go_wp2
                    go_roundg k1
                    case measure => have := HK1.out; omega
                    case rel => exact ⟨(wrap64 (x3_1 + 1)), (by first | rfl | (simp; done) | (simp [*]; done)), H', ⟨by have := HK1.out; omega⟩, by repeat (first | exact Drawn0.refl _ | apply Drawn0.step)⟩
                  · rw [if_neg c17] at H
                    have c17b0 : ((bt a0 x3_1) == 45) = false := beq_eq_false_iff_ne.mpr c17
                    have c17b1 : ((bt a0 x3_1) != 45) = true := bne_iff_ne.mpr c17
                    by_cases c18 : (bt a0 x3_1) = 95
                    · rw [if_pos c18] at H
                      have c18b0 : ((bt a0 x3_1) == 95) = true := beq_iff_eq.mpr c18
                      have c18b1 : ((bt a0 x3_1) != 95) = false := bne_eq_false_iff_eq.mpr c18
                      clear c18
                      have H' := Aside0.mk H
                      clear H
                      have p4 : 0 ≤ (x3_1 : Int) := of_decide_eq_true (by first | (with_reducible assumption) | assumption)
                      have q4 : x3_1 < (a0.size : Int) := of_decide_eq_true (by first | (with_reducible assumption) | assumption)
                      have hx4 := bt_at a0 x3_1
                      replace p4 := eq_true p4
                      replace q4 := eq_true q4
                      go_wp2
                      go_roundg k1
                      case measure => have := HK1.out; omega
                      case rel => exact ⟨(wrap64 (x3_1 + 1)), (by first | rfl | (simp; done) | (simp [*]; done)), H', ⟨by have := HK1.out; omega⟩, by repeat (first | exact Drawn0.refl _ | apply Drawn0.step)⟩
                    · rw [if_neg c18] at H
                      have c18b0 : ((bt a0 x3_1) == 95) = false := beq_eq_false_iff_ne.mpr c18
                      have c18b1 : ((bt a0 x3_1) != 95) = true := bne_iff_ne.mpr c18
                      obtain rfl := Option.some.inj H
                      have p4 : 0 ≤ (x3_1 : Int) := of_decide_eq_true (by first | (with_reducible assumption) | assumption)
                      have q4 : x3_1 < (a0.size : Int) := of_decide_eq_true (by first | (with_reducible assumption) | assumption)
                      have hx4 := bt_at a0 x3_1
                      replace p4 := eq_true p4
                      replace q4 := eq_true q4
                      go_wp2
                      go_ret
                      exact ⟨by first | rfl | (simp; done) | (simp [*]; done), by repeat (first | exact Drawn0.refl _ | apply Drawn0.step)⟩
              · rw [if_neg c15] at H
                have c15b0 : decide ((bt a0 x3_1) < 48) = false := decide_eq_false c15
                clear c15
                by_cases c19 : (bt a0 x3_1) > 57
                · rw [if_pos c19] at H
                  have c19b0 : decide (57 < (bt a0 x3_1)) = true := decide_eq_true c19
                  clear c19
                  by_cases c20 : (bt a0 x3_1) = 46
                  · rw [if_pos c20] at H
                    have c20b0 : ((bt a0 x3_1) == 46) = true := beq_iff_eq.mpr c20
                    have c20b1 : ((bt a0 x3_1) != 46) = false := bne_eq_false_iff_eq.mpr c20
                    clear c20
                    have H' := Aside0.mk H
                    clear H
                    have p4 : 0 ≤ (x3_1 : Int) := of_decide_eq_true (by first | (with_reducible assumption) | assumption)
                    have q4 : x3_1 < (a0.size : Int) := of_decide_eq_true (by first | (with_reducible assumption) | assumption)
                    have hx4 := bt_at a0 x3_1
                    replace p4 := eq_true p4
                    replace q4 := eq_true q4
                    go_wp2
                    go_roundg k1
                    case measure => have := HK1.out; omega
                    case rel => exact ⟨(wrap64 (x3_1 + 1)), (by first | rfl | (simp; done) | (simp [*]; done)), H', ⟨by have := HK1.out; omega⟩, by repeat (first | exact Drawn0.refl _ | apply Drawn0.step)⟩
                  · rw [if_neg c20] at H
                    have c20b0 : ((bt a0 x3_1) == 46) = false := beq_eq_false_iff_ne.mpr c20
                    have c20b1 : ((bt a0 x3_1) != 46) = true := bne_iff_ne.mpr c20
                    by_cases c21 : (bt a0 x3_1) = 45
                    · rw [if_pos c21] at H
                      have c21b0 : ((bt a0 x3_1) == 45) = true := beq_iff_eq.mpr c21
                      have c21b1 : ((bt a0 x3_1) != 45) = false := bne_eq_false_iff_eq.mpr c21
                      clear c21
                      have H' := Aside0.mk H
                      clear H
                      have p4 : 0 ≤ (x3_1 : Int) := of_decide_eq_true (by first | (with_reducible assumption) | assumption)
                      have q4 : x3_1 < (a0.size : Int) := of_decide_eq_true (by first | (with_reducible assumption) | assumption)
                      have hx4 := bt_at a0 x3_1
                      replace p4 := eq_true p4
                      replace q4 := eq_true q4
                      go_wp2
                      go_roundg k1
                      case measure => have := HK1.out; omega
                      case rel => exact ⟨(wrap64 (x3_1 + 1)), (by first | rfl | (simp; done) | (simp [*]; done)), H', ⟨by have := HK1.out; omega⟩, by repeat (first | exact Drawn0.refl _ | apply Drawn0.step)⟩
                    · rw [if_neg c21] at H
                      have c21b0 : ((bt a0 x3_1) == 45) = false := beq_eq_false_iff_ne.mpr c21
                      have c21b1 : ((bt a0 x3_1) != 45) = true := bne_iff_ne.mpr c21
                      by_cases c22 : (bt a0 x3_1) = 95
                      · rw [if_pos c22] at H
                        have c22b0 : ((bt a0 x3_1) == 95) = true := beq_iff_eq.mpr c22
                        have c22b1 : ((bt a0 x3_1) != 95) = false := bne_eq_false_iff_eq.mpr c22
                        clear c22
                        have H' := Aside0.mk H
                        clear H
                        have p4 : 0 ≤ (x3_1 : Int) := of_decide_eq_true (by first | (with_reducible assumption) | assumption)
                        have q4 : x3_1 < (a0.size : Int) := of_decide_eq_true (by first | (with_reducible assumption) | assumption)
                        have hx4 := bt_at a0 x3_1
                        replace p4 := eq_true p4
                        replace q4 := eq_true q4
                        go_wp2
                        go_roundg k1
                        case measure => have := HK1.out; omega
                        case rel => exact ⟨(wrap64 (x3_1 + 1)), (by first | rfl | (simp; done) | (simp [*]; done)), H', ⟨by have := HK1.out; omega⟩, by repeat (first | exact Drawn0.refl _ | apply Drawn0.step)⟩
                      · rw [if_neg c22] at H
                        have c22b0 : ((bt a0 x3_1) == 95) = false := beq_eq_false_iff_ne.mpr c22
                        have c22b1 : ((bt a0 x3_1) != 95) = true := bne_iff_ne.mpr c22
                        obtain rfl := Option.some.inj H
                        have p4 : 0 ≤ (x3_1 : Int) := of_decide_eq_true (by first | (with_reducible assumption) | assumption)
                        have q4 : x3_1 < (a0.size : Int) := of_decide_eq_true (by first | (with_reducible assumption) | assumption)
                        have hx4 := bt_at a0 x3_1
                        replace p4 := eq_true p4
                        replace q4 := eq_true q4
                        go_wp2
                        go_ret
                        exact ⟨by first | rfl | (simp; done) | (simp [*]; done), by repeat (first | exact Drawn0.refl _ | apply Drawn0.step)⟩
                · rw [if_neg c19] at H
                  have c19b0 : decide (57 < (bt a0 x3_1)) = false := decide_eq_false c19
                  clear c19
                  have H' := Aside0.mk H
                  clear H
                  have p4 : 0 ≤ (x3_1 : Int) := of_decide_eq_true (by first | (with_reducible assumption) | assumption)
                  have q4 : x3_1 < (a0.size : Int) := of_decide_eq_true (by first | (with_reducible assumption) | assumption)
                  have hx4 := bt_at a0 x3_1
                  replace p4 := eq_true p4
                  replace q4 := eq_true q4
                  go_wp2
                  go_roundg k1
                  case measure => have := HK1.out; omega
                  case rel => exact ⟨(wrap64 (x3_1 + 1)), (by first | rfl | (simp; done) | (simp [*]; done)), H', ⟨by have := HK1.out; omega⟩, by repeat (first | exact Drawn0.refl _ | apply Drawn0.step)⟩
            · rw [if_neg c14] at H
              have c14b0 : decide (122 < (bt a0 x3_1)) = false := decide_eq_false c14
              clear c14
              have H' := Aside0.mk H
              clear H
              have p4 : 0 ≤ (x3_1 : Int) := of_decide_eq_true (by first | (with_reducible assumption) | assumption)
              have q4 : x3_1 < (a0.size : Int) := of_decide_eq_true (by first | (with_reducible assumption) | assumption)
              have hx4 := bt_at a0 x3_1
              replace p4 := eq_true p4
              replace q4 := eq_true q4
              go_wp2
              go_roundg k1
              case measure => have := HK1.out; omega
              case rel => exact ⟨(wrap64 (x3_1 + 1)), (by first | rfl | (simp; done) | (simp [*]; done)), H', ⟨by have := HK1.out; omega⟩, by repeat (first | exact Drawn0.refl _ | apply Drawn0.step)⟩
        · rw [if_neg c3] at H
          exact absurd H (by simp)
      · rw [if_neg c2] at H
        have c2b0 : decide (x3_1 < (a0.size : Int)) = false := decide_eq_false c2
        clear c2
        by_cases c23 : (a0.size : Int) ≥ 1
        · rw [if_pos c23] at H
          have c23b0 : decide (1 ≤ (a0.size : Int)) = true := decide_eq_true c23
          have c23b1 : decide (1 ≤ a0.size) = true := decide_eq_true (by omega)
          clear c23
          obtain rfl := Option.some.inj H
          go_wp2
          go_ret
          exact ⟨by first | rfl | (simp; done) | (simp [*]; done), by repeat (first | exact Drawn0.refl _ | apply Drawn0.step)⟩
        · rw [if_neg c23] at H
          have c23b0 : decide (1 ≤ (a0.size : Int)) = false := decide_eq_false c23
          have c23b1 : decide (1 ≤ a0.size) = false := decide_eq_false (by omega)
          clear c23
          obtain rfl := Option.some.inj H
          go_wp2
          go_ret
          exact ⟨by first | rfl | (simp; done) | (simp [*]; done), by repeat (first | exact Drawn0.refl _ | apply Drawn0.step)⟩

end Go.Proofs.Ytgdpabedlghiaaa.PZ
/- Which texts may be names: the document's answer is the same. -/
namespace Go.Proofs.Ytgdpabedlghiaaa.Name
open Go.RowKit Go.Lib Go.Proofs.Ytgdpabedlghiaaa.Base Go.Proofs.Ytgdpabedlghiaaa.Aid Go.Proofs.Ytgdpabedlghiaaa.PZ Go.Proofs.YtgdpabedlghiaaaW.PrintWords Go.Proofs.YtgdpabedlghiaaaW.PrintLast Go.Proofs.YtgdpabedlghiaaaW.PrintMore

theorem letB_high {r : Nat} (h : 128 ≤ r) : letB r = false := by
  unfold letB
  rw [decide_eq_false (p := r ≤ 122) (by omega), decide_eq_false (p := r ≤ 57) (by omega), decide_eq_false (p := r = 46) (by omega), decide_eq_false (p := r = 45) (by omega), decide_eq_false (p := r = 95) (by omega)]
  simp
theorem dec_low (s : ByteArray) (pos : Nat) (hb : (s.get! pos).toNat < 128) : Utf8.decode s pos = ((s.get! pos).toNat, 1) := by
  unfold Utf8.decode
  simp only [Nat.add_zero]
  rw [if_pos hb]
theorem dec_high (s : ByteArray) (pos : Nat) (hb : ¬ (s.get! pos).toNat < 128) : 128 ≤ (Utf8.decode s pos).1 := by
  unfold Utf8.decode
  simp only [Nat.add_zero]
  rw [if_neg hb]
  split
  · split
    · assumption
    · simp [Utf8.runeError]
  · split
    · split
      · next h => simp only [Bool.and_eq_true, decide_eq_true_eq] at h; omega
      · simp [Utf8.runeError]
    · split
      · split
        · next h => simp only [Bool.and_eq_true, decide_eq_true_eq] at h; omega
        · simp [Utf8.runeError]
      · simp [Utf8.runeError]
theorem bt_get (s : ByteArray) (i : Nat) (h : i < s.size) : bt s (i : Int) = ((s.get! i).toNat : Int) := by
  unfold bt
  rw [Int.toNat_natCast, dif_pos h]
  congr 2
  show s.data[i] = s.data[i]!
  exact (getElem!_pos s.data i h).symm
theorem idx_all (s : ByteArray) : ∀ (f pos : Nat), s.size ≤ pos + f → (Lib.idxFuncFrom (fun r => !letB r) true s f pos < 0 ↔ ∀ i, pos ≤ i → i < s.size → letB (s.get! i).toNat = true) := by
  intro f
  induction f with
  | zero =>
    intro pos h
    constructor
    · intro _ i h1 h2; omega
    · intro _; show (-1 : Int) < 0; omega
  | succ f ih =>
    intro pos h
    unfold Lib.idxFuncFrom
    by_cases hp : pos < s.size
    · rw [if_pos hp]
      by_cases hb : (s.get! pos).toNat < 128
      · rw [dec_low s pos hb]
        dsimp only
        cases hl : letB (s.get! pos).toNat with
        | false =>
          rw [if_pos (by rfl)]
          constructor
          · intro h2; omega
          · intro h2; have := h2 pos (Nat.le_refl _) hp; rw [hl] at this; cases this
        | true =>
          rw [if_neg (by simp), ih (pos + 1) (by omega)]
          constructor
          · intro h2 i h3 h4
            by_cases e : i = pos
            · rw [e]; exact hl
            · exact h2 i (by omega) h4
          · intro h2 i h3 h4; exact h2 i (by omega) h4
      · have hd := dec_high s pos hb
        rw [if_pos (by rw [letB_high hd]; rfl)]
        constructor
        · intro h2; omega
        · intro h2
          have := h2 pos (Nat.le_refl _) hp
          rw [letB_high (by omega)] at this
          cases this
    · rw [if_neg hp]
      constructor
      · intro _ i h1 h2; omega
      · intro _; omega
theorem name_iff (s : ByteArray) : nameB s = (decide (∀ i, i < s.size → letB (s.get! i).toNat = true) && (decide (1 ≤ s.size) && decide (s.size ≤ 16))) := by
  unfold nameB Lib.idxFunc
  congr 1
  have := idx_all s s.size 0 (by omega)
  exact decide_eq_decide.2 (this.trans ⟨fun h i hi => h i (Nat.zero_le _) hi, fun h i _ hi => h i hi⟩)
theorem name_ev (s : ByteArray) (hs : s.size ≤ 4611686018427387904) : Ev (fun k => hanaperref12_Name.f k s) (nameB s) := by
  have key : ∀ (d i : Nat), i + d = s.size → (∀ j, j < i → letB (s.get! j).toNat = true) → Ev (fun k => hanaperref12_Name.l0 k s (i : Int)) (nameB s) := by
    intro d
    induction d with
    | zero =>
      intro i hi hall
      refine Ev.step (fun k => by simp only [hanaperref12_Name.l0]; rfl) ?_
      refine neg (by omega) ?_
      have h1 : nameB s = (decide (1 ≤ s.size) && decide (s.size ≤ 16)) := by
        rw [name_iff, decide_eq_true (p := ∀ i, i < s.size → letB (s.get! i).toNat = true) (fun j hj => hall j (by omega)), Bool.true_and]
      by_cases h2 : 1 ≤ s.size
      · refine pos (by omega) (now ?_)
        rw [h1, decide_eq_true h2, Bool.true_and]
        exact decide_eq_decide.2 (by omega)
      · refine neg (by omega) (now ?_)
        rw [h1, decide_eq_false h2, Bool.false_and]
    | succ d ih =>
      intro i hi hall
      have hil : i < s.size := by omega
      have hc := bt_get s i hil
      have hr := bt_range s (i : Int)
      refine Ev.step (fun k => by simp only [hanaperref12_Name.l0]; rfl) ?_
      refine pos (by omega) (pos (by omega) ?_)
      rw [inc hil hs]
      have hgo : letB (s.get! i).toNat = true → Ev (fun k => hanaperref12_Name.l0 k s ((i + 1 : Nat) : Int)) (nameB s) := fun h => ih (i + 1) (by omega) (fun j hj => by
        by_cases e : j = i
        · rw [e]; exact h
        · exact hall j (by omega))
      have hno : letB (s.get! i).toNat = false → Ev (fun _ => some false) (nameB s) := fun h => now (by
        rw [name_iff, decide_eq_false (p := ∀ i, i < s.size → letB (s.get! i).toNat = true) (fun h2 => by have := h2 i hil; rw [h] at this; cases this), Bool.false_and])
      obtain ⟨c, hcc⟩ : ∃ c, bt s (i : Int) = c := ⟨_, rfl⟩
      obtain ⟨g, hg⟩ : ∃ g, (s.get! i).toNat = g := ⟨_, rfl⟩
      rw [hcc] at hc hr ⊢
      rw [hg] at hc hgo hno
      have hl : letB g = true ↔ ((97 ≤ c ∧ c ≤ 122) ∨ (48 ≤ c ∧ c ≤ 57) ∨ c = 46 ∨ c = 45 ∨ c = 95) := by
        simp only [letB, Bool.or_eq_true, Bool.and_eq_true, decide_eq_true_eq]
        omega
      have hl2 : letB g = false ↔ ¬ ((97 ≤ c ∧ c ≤ 122) ∨ (48 ≤ c ∧ c ≤ 57) ∨ c = 46 ∨ c = 45 ∨ c = 95) := by
        rw [← hl]
        cases letB g <;> simp
      rw [hl] at hgo
      rw [hl2] at hno
      have hcases : c < 45 ∨ c = 45 ∨ c = 46 ∨ c = 47 ∨ (48 ≤ c ∧ c ≤ 57) ∨ (58 ≤ c ∧ c ≤ 94) ∨ c = 95 ∨ c = 96 ∨ (97 ≤ c ∧ c ≤ 122) ∨ 122 < c := by omega
      rcases hcases with h | h | h | h | h | h | h | h | h | h
      all_goals
        repeat (first | refine pos (by omega) ?_ | refine neg (by omega) ?_)
        first | exact hgo (by omega) | exact hno (by omega)
  exact key s.size 0 (by omega) (fun j hj => by omega)
theorem rname_c (s : ByteArray) (w : World) (hs : s.size ≤ 4611686018427387904) : Calls Try.prog 22 #[.string s] w fun e w' => e = .returned (.bool (nameB s)) ∧ Drawn0 w w' := by
  obtain ⟨k, h⟩ := (name_ev s hs).rounds
  exact hanaperref12_Name.calls k s _ w h
end Go.Proofs.Ytgdpabedlghiaaa.Name
