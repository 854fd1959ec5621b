import Derived.Test.YtobljmgoengofaaAllocPlain
import Derived.Test.YtobljmgoengofaaTlvPlain
import Derived.Test.YtobljmgoengofaaPZxFhanaperref01SameInts
import Derived.Test.YtobljmgoengofaaPZxFallocBits
import Derived.Test.YtobljmgoengofaaPZxFallocList
import Derived.Test.YtobljmgoengofaaPZxFhanaperref11Bits
import Derived.Test.YtobljmgoengofaaPZxFhanaperref11List
import Derived.Test.YtobljmgoengofaaPZxFhanaperref11Has
import Derived.Test.YtobljmgoengofaaPZxFallocright
import Derived.Test.YtobljmgoengofaaPZxFallocbytesOf
/- What the functions of the first chapters come to, with rounds enough. -/
namespace Go.Proofs.Ytobljmgoengofaa.AllocEv
open Go.Proofs.Ytobljmgoengofaa.TlvPlain Go.RowKit Go.Proofs.YtobljmgoengofaaW.PrintWords Go.Proofs.YtobljmgoengofaaW.PrintLast Go.Proofs.YtobljmgoengofaaW.PrintMore Go.Proofs.Ytobljmgoengofaa.Aid Go.Proofs.Ytobljmgoengofaa.AllocPlain Go.Proofs.Ytobljmgoengofaa.PZ

/-! ### lists that are the same -/
theorem sameInts_from (a b : List Int) (hl : a.length = b.length) (hn : a.length ≤ 4611686018427387904) : ∀ (d i : Nat), i + d = a.length →
    Ev (fun k => hanaperref01_SameInts.l0 k a b i) (decide (a.drop i = b.drop i)) := by
  intro d
  induction d with
  | zero =>
    intro i hi
    refine Ev.step (fun k => by simp only [hanaperref01_SameInts.l0]; rfl) ?_
    refine neg (by omega) (now ?_)
    rw [List.drop_of_length_le (by omega), List.drop_of_length_le (by omega)]; simp
  | succ d ih =>
    intro i hi
    refine Ev.step (fun k => by simp only [hanaperref01_SameInts.l0]; rfl) ?_
    refine pos (by omega) (pos (by omega) (pos (by omega) ?_))
    rw [rd_nat a i (by omega), rd_nat b i (by omega), drop_cons a i (by omega), drop_cons b i (by omega), inc (show i < a.length by omega) hn]
    by_cases e : a[i]'(by omega) = b[i]'(by omega)
    · refine pos e ?_
      have := ih (i + 1) (by omega)
      generalize a.drop (i + 1) = A at this ⊢
      generalize b.drop (i + 1) = B at this ⊢
      simpa [e] using this
    · refine neg e (now ?_)
      generalize a.drop (i + 1) = A
      generalize b.drop (i + 1) = B
      simp [e]
theorem sameInts_ev (a b : List Int) (hn : a.length ≤ 4611686018427387904) : Ev (fun k => hanaperref01_SameInts.f k a b) (decide (a = b)) := by
  unfold hanaperref01_SameInts.f
  by_cases e : a.length = b.length
  · refine pos (by omega) ?_
    simpa using sameInts_from a b e hn a.length 0 (by omega)
  · refine neg (by omega) (now ?_)
    have : a ≠ b := fun h => e (by rw [h])
    simp [this]

/-! ### numbers as bits -/
def bitsSpec (l : List Int) (n : Int) : List Int × Bool := if 0 ≤ n ∧ n ≤ 4096 then cond (incr n (-1) l) (bitsOf (mem l) ((n.toNat + 7) / 8), true) ([], false) else ([], false)
theorem right_eq (n : Int) : alloc_right.f n = some (decide (0 ≤ n ∧ n ≤ 4096)) := by
  unfold alloc_right.f
  by_cases h : n ≥ 0
  · rw [if_pos h]; simp [h]
  · rw [if_neg h]; simp; omega
theorem bytesOf_eq (n : Int) (h0 : 0 ≤ n) (h1 : n ≤ 4096) : alloc_bytesOf.f n = some (((n.toNat + 7) / 8 : Nat) : Int) := by
  unfold alloc_bytesOf.f
  rw [w64 (x := n + 8) (by omega) (by omega), w64 (x := n + 8 - 1) (by omega) (by omega), Int.tdiv_eq_ediv_of_nonneg (by omega), w64 (by omega) (by omega)]
  congr 1; omega

theorem mem_snoc (p : List Int) (x : Int) (hx : 0 ≤ x) : ∀ k, mem (p ++ [x]) k = (mem p k || k == x.toNat) := by
  intro k
  unfold mem
  rw [Bool.eq_iff_iff, Bool.or_eq_true, decide_eq_true_eq, decide_eq_true_eq, beq_iff_eq, List.mem_append, List.mem_singleton]
  constructor
  · rintro (h | h)
    · exact .inl h
    · exact .inr (by omega)
  · rintro (h | h)
    · exact .inl h
    · exact .inr (by omega)

theorem bits_loop (n : Int) (l : List Int) (hn0 : 0 ≤ n) (hn : n ≤ 4096) (hlen : l.length ≤ 4611686018427387904) : ∀ (d i : Nat) (last : Int), i + d = l.length → -1 ≤ last →
    Ev (fun k => alloc_Bits.l0 k n (bitsOf (mem (l.take i)) ((n.toNat + 7) / 8)) last l (l.length : Int) i)
      (cond (incr n last (l.drop i)) (bitsOf (mem l) ((n.toNat + 7) / 8), true) ([], false)) := by
  intro d
  induction d with
  | zero =>
    intro i last hi hlast
    refine Ev.step (fun k => by simp only [alloc_Bits.l0]; rfl) ?_
    refine neg (by omega) (now ?_)
    rw [List.drop_of_length_le (by omega), List.take_of_length_le (by omega)]; rfl
  | succ d ih =>
    intro i last hi hlast
    have hil : i < l.length := by omega
    refine Ev.step (fun k => by simp only [alloc_Bits.l0]; rfl) ?_
    refine pos (by omega) (pos (by omega) (pos (by omega) ?_))
    rw [rd_nat l i hil, drop_cons l i hil]
    simp only [incr]
    generalize hx : l[i] = x
    by_cases h1 : x ≤ last
    · refine pos h1 (now ?_)
      rw [decide_eq_false (by omega)]; rfl
    refine neg h1 ?_
    by_cases h2 : x ≥ n
    · refine pos h2 (now ?_)
      rw [decide_eq_false (show ¬ x < n by omega)]; simp
    refine neg h2 ?_
    have e1 : wrap64 (Int.tdiv x 8) = ((x.toNat / 8 : Nat) : Int) := by
      rw [Int.tdiv_eq_ediv_of_nonneg (by omega), w64 (by omega) (by omega)]; omega
    have e2 : Int.tmod x 8 = ((x.toNat % 8 : Nat) : Int) := by rw [Int.tmod_eq_emod_of_nonneg (by omega)]; omega
    rw [e1, e2]
    refine pos (by omega) (pos ?_ (pos (by omega) ?_))
    · rw [bitsOf_length]; omega
    rw [decide_eq_true (show last < x by omega), decide_eq_true (show x < n by omega), Bool.true_and, Bool.true_and, inc hil hlen]
    have e3 : rd (bitsOf (mem (l.take i)) ((n.toNat + 7) / 8)) ((x.toNat / 8 : Nat) : Int) = byteAt (mem (l.take i)) (x.toNat / 8) := by
      unfold rd; rw [Int.toNat_natCast, bitsOf_get _ _ _ (by omega)]
    rw [e3, Int.toNat_natCast, byteAt_or (mem_snoc (l.take i) x (by omega)), bitsOf_set (by omega) (mem_snoc (l.take i) x (by omega))]
    have e4 : l.take i ++ [x] = l.take (i + 1) := by rw [List.take_succ_eq_append_getElem hil, hx]
    rw [e4]
    exact ih (i + 1) x (by omega) (by omega)
theorem bits_ev (l : List Int) (n : Int) (hlen : l.length ≤ 4611686018427387904) : Ev (fun k => alloc_Bits.f k l n) (bitsSpec l n) := by
  unfold alloc_Bits.f bitsSpec
  refine bindSome (right_eq n) ?_
  by_cases h : 0 ≤ n ∧ n ≤ 4096
  · refine pos (by simpa using h) ?_
    refine bindSome (bytesOf_eq n h.1 h.2) (pos (by omega) (pos (by omega) ?_))
    have := bits_loop n l h.1 h.2 hlen l.length 0 (-1) (by omega) (by omega)
    rw [List.take_zero, bitsOf_none, List.drop_zero] at this
    rw [if_pos h]
    exact this
  · refine neg (by simpa using h) (now ?_)
    rw [if_neg h]

/-! ### the document's -/
theorem has_loop (l : List Int) (x : Int) (hlen : l.length ≤ 4611686018427387904) : ∀ (d i : Nat), i + d = l.length →
    Ev (fun k => hanaperref11_Has.l0 k l x i) (decide (x ∈ l.drop i)) := by
  intro d
  induction d with
  | zero =>
    intro i hi
    refine Ev.step (fun k => by simp only [hanaperref11_Has.l0]; rfl) ?_
    refine neg (by omega) (now ?_)
    rw [List.drop_of_length_le (by omega)]; simp
  | succ d ih =>
    intro i hi
    have hil : i < l.length := by omega
    refine Ev.step (fun k => by simp only [hanaperref11_Has.l0]; rfl) ?_
    refine pos (by omega) (pos (by omega) ?_)
    rw [rd_nat l i hil, drop_cons l i hil, inc hil hlen]
    by_cases e : l[i] = x
    · exact pos e (now (by simp [e]))
    · refine neg e ?_
      have e' : ¬ x = l[i] := fun h => e h.symm
      have := ih (i + 1) (by omega)
      generalize l.drop (i + 1) = L at this ⊢
      simpa [e'] using this
theorem has_ev (l : List Int) (x : Int) (hlen : l.length ≤ 4611686018427387904) : Ev (fun k => hanaperref11_Has.f k l x) (decide (x ∈ l)) := by
  unfold hanaperref11_Has.f
  simpa using has_loop l x hlen l.length 0 (by omega)

theorem bits_doc_inner (l : List Int) (n : Int) (hn : n ≤ 4096) (hlen : l.length ≤ 4611686018427387904) (out : List Int) (j : Nat) (hj : 8 * (j : Int) < n) (ho : out.length ≤ 600) (r : List Int × Bool)
    (h : Ev (fun k => hanaperref11_Bits.l1 k l n (out ++ [byteAt (mem l) j]) ((8 * (j + 1) : Nat) : Int)) r) :
    Ev (fun k => hanaperref11_Bits.l2 k l n out ((8 * j : Nat) : Int) 0 0) r := by
  have st : ∀ (c t : Int) (i : Nat), i < 8 → 0 ≤ c → c ≤ 255 → wrap64 (2 * c) + 0 = t → ∀ r, (∀ b, b = mem l (8 * j + i) → Ev (fun k => hanaperref11_Bits.l2 k l n out ((8 * j : Nat) : Int) (2 * c + bv b 1) ((i + 1 : Nat) : Int)) r) → Ev (fun k => hanaperref11_Bits.l2 k l n out ((8 * j : Nat) : Int) c (i : Int)) r := by
    intro c t i hi hc0 hc1 _ r hr
    refine Ev.step (fun k => by simp only [hanaperref11_Bits.l2]; rfl) ?_
    refine pos (by omega) ?_
    rw [w64 (x := ((8 * j : Nat) : Int) + (i : Int)) (by omega) (by omega), w64 (x := 2 * c) (by omega) (by omega), w64 (x := 2 * c + 1) (by omega) (by omega), w64 (x := (i : Int) + 1) (by omega) (by omega)]
    refine evBind (has_ev l _ hlen) ?_
    have e : (((8 * j : Nat) : Int) + (i : Int)) = ((8 * j + i : Nat) : Int) := by omega
    rw [e]
    by_cases hb : ((8 * j + i : Nat) : Int) ∈ l
    · refine pos (by simpa using hb) ?_
      have := hr true (by unfold mem; rw [decide_eq_true hb])
      simpa [bv] using this
    · refine neg (by simpa using hb) ?_
      have := hr false (by unfold mem; rw [decide_eq_false hb])
      simpa [bv] using this
  have bvr : ∀ b, bv b 1 = 0 ∨ bv b 1 = 1 := by intro b; cases b <;> simp [bv]
  refine st 0 0 0 (by omega) (by omega) (by omega) (by rw [w64] <;> omega) _ fun b0 h0 => ?_
  have r0 := bvr b0
  refine st _ _ 1 (by omega) (by omega) (by omega) rfl _ fun b1 h1 => ?_
  have r1 := bvr b1
  refine st _ _ 2 (by omega) (by omega) (by omega) rfl _ fun b2 h2 => ?_
  have r2 := bvr b2
  refine st _ _ 3 (by omega) (by omega) (by omega) rfl _ fun b3 h3 => ?_
  have r3 := bvr b3
  refine st _ _ 4 (by omega) (by omega) (by omega) rfl _ fun b4 h4 => ?_
  have r4 := bvr b4
  refine st _ _ 5 (by omega) (by omega) (by omega) rfl _ fun b5 h5 => ?_
  have r5 := bvr b5
  refine st _ _ 6 (by omega) (by omega) (by omega) rfl _ fun b6 h6 => ?_
  have r6 := bvr b6
  refine st _ _ 7 (by omega) (by omega) (by omega) rfl _ fun b7 h7 => ?_
  have r7 := bvr b7
  refine Ev.step (fun k => by simp only [hanaperref11_Bits.l2]; rfl) ?_
  refine neg (by omega) (pos (by omega) ?_)
  have e : (2 * (2 * (2 * (2 * (2 * (2 * (2 * (2 * 0 + bv b0 1) + bv b1 1) + bv b2 1) + bv b3 1) + bv b4 1) + bv b5 1) + bv b6 1) + bv b7 1) % 256 = byteAt (mem l) j := by
    unfold byteAt
    rw [← h1, ← h2, ← h3, ← h4, ← h5, ← h6, ← h7]
    rw [Nat.add_zero] at h0
    rw [← h0]
    clear h0 h1 h2 h3 h4 h5 h6 h7 st h
    have bb : ∀ b v, bv b v = v * bv b 1 := by intro b v; cases b <;> simp [bv]
    rw [bb b0 128, bb b1 64, bb b2 32, bb b3 16, bb b4 8, bb b5 4, bb b6 2]
    omega
  rw [e, w64 (by omega) (by omega)]
  have e2 : ((8 * j : Nat) : Int) + 8 = ((8 * (j + 1) : Nat) : Int) := by omega
  rw [e2]
  exact h
theorem bits_doc_outer (l : List Int) (n : Int) (hn0 : 0 ≤ n) (hn : n ≤ 4096) (hlen : l.length ≤ 4611686018427387904) : ∀ (d j : Nat), j + d = (n.toNat + 7) / 8 →
    Ev (fun k => hanaperref11_Bits.l1 k l n (bitsOf (mem l) j) ((8 * j : Nat) : Int)) (bitsOf (mem l) ((n.toNat + 7) / 8), true) := by
  intro d
  induction d with
  | zero =>
    intro j hj
    refine Ev.step (fun k => by simp only [hanaperref11_Bits.l1]; rfl) ?_
    refine neg (by omega) (now ?_)
    rw [← hj]; rfl
  | succ d ih =>
    intro j hj
    refine Ev.step (fun k => by simp only [hanaperref11_Bits.l1]; rfl) ?_
    refine pos (by omega) ?_
    refine bits_doc_inner l n hn hlen _ j (by omega) (by rw [bitsOf_length]; omega) _ ?_
    have e : bitsOf (mem l) j ++ [byteAt (mem l) j] = bitsOf (mem l) (j + 1) := by simp [bitsOf, List.range_succ]
    rw [e]
    exact ih (j + 1) (by omega)
theorem bits_doc_check (l : List Int) (n : Int) (hn0 : 0 ≤ n) (hn : n ≤ 4096) (hlen : l.length ≤ 4611686018427387904) : ∀ (d i : Nat) (last : Int), i + d = l.length → ((i = 0 ∧ last = -1) ∨ (0 ≤ last ∧ ∃ h : i - 1 < l.length, 0 < i ∧ l[i - 1] = last)) →
    Ev (fun k => hanaperref11_Bits.l0 k l n i) (cond (incr n last (l.drop i)) (bitsOf (mem l) ((n.toNat + 7) / 8), true) ([], false)) := by
  intro d
  induction d with
  | zero =>
    intro i last hi hlast
    refine Ev.step (fun k => by simp only [hanaperref11_Bits.l0]; rfl) ?_
    refine neg (by omega) ?_
    rw [List.drop_of_length_le (by omega)]
    exact bits_doc_outer l n hn0 hn hlen ((n.toNat + 7) / 8) 0 (by omega)
  | succ d ih =>
    intro i last hi hlast
    have hil : i < l.length := by omega
    refine Ev.step (fun k => by simp only [hanaperref11_Bits.l0]; rfl) ?_
    refine pos (by omega) (pos (by omega) ?_)
    rw [rd_nat l i hil, drop_cons l i hil, inc hil hlen]
    simp only [incr]
    generalize hx : l[i] = x
    by_cases h0 : x < 0
    · refine pos h0 (now ?_)
      rw [decide_eq_false (show ¬ last < x by omega)]; rfl
    refine neg h0 ?_
    by_cases h2 : x ≥ n
    · refine pos h2 (now ?_)
      rw [decide_eq_false (show ¬ x < n by omega)]; simp
    refine neg h2 ?_
    rw [decide_eq_true (show x < n by omega)]
    rcases hlast with ⟨rfl, rfl⟩ | ⟨hl0, h, h3, h4⟩
    · refine neg (by omega) ?_
      rw [decide_eq_true (show -1 < x by omega), Bool.true_and, Bool.true_and]
      exact ih 1 x (by omega) (.inr ⟨by omega, by omega, by omega, by simpa using hx⟩)
    · have e : wrap64 ((i : Int) - 1) = ((i - 1 : Nat) : Int) := by rw [w64 (by omega) (by omega)]; omega
      rw [e, rd_nat l (i - 1) h, h4]
      refine pos (by omega) (pos (by omega) (pos (by omega) ?_))
      by_cases h1 : x ≤ last
      · refine pos h1 (now ?_)
        rw [decide_eq_false (by omega)]; rfl
      · refine neg h1 ?_
        rw [decide_eq_true (show last < x by omega), Bool.true_and, Bool.true_and]
        exact ih (i + 1) x (by omega) (.inr ⟨by omega, by omega, by omega, by simpa using hx⟩)
theorem bits_doc_ev (l : List Int) (n : Int) (hlen : l.length ≤ 4611686018427387904) : Ev (fun k => hanaperref11_Bits.f k l n) (bitsSpec l n) := by
  unfold hanaperref11_Bits.f bitsSpec
  have bad : Ev (fun k => hanaperref11_Bits.j0 k l n true) ([], false) := by
    refine Ev.step (fun k => by simp only [hanaperref11_Bits.j0]; rfl) ?_
    exact pos (by simp) (now rfl)
  by_cases h : n < 0
  · refine pos h ?_
    rw [if_neg (by omega)]; exact bad
  refine neg h ?_
  by_cases h2 : n > 4096
  · rw [decide_eq_true h2, if_neg (by omega)]; exact bad
  · rw [decide_eq_false h2]
    refine Ev.step (fun k => by simp only [hanaperref11_Bits.j0]; rfl) ?_
    refine neg (by simp) ?_
    have := bits_doc_check l n (by omega) (by omega) hlen l.length 0 (-1) (by omega) (.inl ⟨rfl, rfl⟩)
    rw [List.drop_zero] at this
    rw [if_pos (by omega)]
    exact this

/-! ### bits as numbers -/
def listSpec (b : List Int) (n : Int) : List Int × Bool :=
  if 0 ≤ n ∧ n ≤ 4096 ∧ b.length = (n.toNat + 7) / 8 then cond (outOf n (listFrom b 0)) ([], false) (listFrom b 0, true) else ([], false)

theorem listFrom_mem (b : List Int) (i : Nat) : ∀ x ∈ listFrom b i, (i : Int) ≤ x ∧ x < 8 * b.length := by
  intro x hx
  simp only [listFrom, List.mem_map, List.mem_filter] at hx
  obtain ⟨j, ⟨hj, _⟩, rfl⟩ := hx
  rw [List.mem_drop_iff_getElem] at hj
  obtain ⟨m, hm, rfl⟩ := hj
  simp at hm ⊢
  omega
theorem getD_u8 {b : List Int} (hb : U8 b) (j : Nat) : 0 ≤ b.getD j 0 ∧ b.getD j 0 ≤ 255 := by
  rw [List.getD_eq_getElem?_getD]
  by_cases h : j < b.length
  · rw [List.getElem?_eq_getElem h]; exact hb _ (List.getElem_mem h)
  · rw [List.getElem?_eq_none (by omega)]; simp
theorem and_bit {b : List Int} (hb : U8 b) (i : Nat) : (Go.bits .and .u8 (b.getD (i / 8) 0) (shr .u8 128 ((i % 8 : Nat) : Int)) = 0) ↔ bitAt b i = false := by
  have hr := getD_u8 hb (i / 8)
  have t := and_tab ⟨(b.getD (i / 8) 0).toNat, by omega⟩ ⟨i % 8, Nat.mod_lt _ (by decide)⟩
  dsimp only at t
  rw [show (((b.getD (i / 8) 0).toNat : Nat) : Int) = b.getD (i / 8) 0 from by omega] at t
  unfold bitAt
  by_cases hx : Go.bits .and .u8 (b.getD (i / 8) 0) (shr .u8 128 ((i % 8 : Nat) : Int)) = 0
  · rw [decide_eq_true hx] at t
    exact ⟨fun _ => by revert t; cases decide (b.getD (i / 8) 0 / 2 ^ (7 - i % 8) % 2 = 1) <;> simp, fun _ => hx⟩
  · rw [decide_eq_false hx] at t
    exact ⟨fun h => absurd h hx, fun h => by rw [h] at t; simp at t⟩
theorem byte_i {i : Nat} (h : i ≤ 9000000) : wrap64 (Int.tdiv (i : Int) 8) = ((i / 8 : Nat) : Int) := by
  rw [Int.tdiv_eq_ediv_of_nonneg (by omega), w64 (by omega) (by omega)]; omega
theorem bit_i (i : Nat) : Int.tmod (i : Int) 8 = ((i % 8 : Nat) : Int) := by rw [Int.tmod_eq_emod_of_nonneg (by omega)]; omega
theorem outOf_append (n : Int) (p q : List Int) : outOf n (p ++ q) = (outOf n p || outOf n q) := by simp [outOf]

/-- What rises: one of all is at least n if and only if the last one is. -/
theorem out_last (n : Int) : ∀ (b : List Int), (h : listFrom b 0 ≠ []) → outOf n (listFrom b 0) = decide (n ≤ (listFrom b 0).getLast h) := by
  intro b h
  have hp : (listFrom b 0).Pairwise (· < ·) := by
    unfold listFrom
    rw [List.pairwise_map]
    refine List.Pairwise.imp (R := fun a b => a < b) (fun h => by omega) ?_
    exact List.Pairwise.filter _ (List.Pairwise.drop List.pairwise_lt_range)
  generalize listFrom b 0 = l at h hp
  unfold outOf
  rw [Bool.eq_iff_iff, List.any_eq_true, decide_eq_true_eq]
  constructor
  · rintro ⟨x, hx, hn⟩
    have hn := of_decide_eq_true hn
    rcases List.mem_iff_getElem.1 hx with ⟨j, hj, rfl⟩
    rw [List.getLast_eq_getElem]
    by_cases e : j = l.length - 1
    · subst e; exact hn
    · have := List.pairwise_iff_getElem.1 hp j (l.length - 1) hj (by omega) (by omega); omega
  · intro hn
    exact ⟨_, List.getLast_mem h, decide_eq_true hn⟩

theorem list_loop (b : List Int) (n : Int) (hb : U8 b) (hlen : b.length ≤ 1000000) : ∀ (d i : Nat) (p : List Int), i + d = 8 * b.length → p ++ listFrom b i = listFrom b 0 → p.length ≤ i →
    Ev (fun k => alloc_List.l0 k b n p ((8 * b.length : Nat) : Int) i) (cond (outOf n (listFrom b 0)) ([], false) (listFrom b 0, true)) := by
  intro d
  induction d with
  | zero =>
    intro i p hi hp hl
    refine Ev.step (fun k => by simp only [alloc_List.l0]; rfl) ?_
    rw [listFrom_end b i (by omega), List.append_nil] at hp
    refine neg (by omega) ?_
    by_cases h0 : p.length = 0
    · refine neg (by omega) (now ?_)
      have : p = [] := List.length_eq_zero_iff.1 h0
      rw [← hp, this]; rfl
    · have e : wrap64 ((p.length : Int) - 1) = ((p.length - 1 : Nat) : Int) := by rw [w64 (by omega) (by omega)]; omega
      rw [e, rd_nat p _ (by omega)]
      refine pos (by omega) (pos (by omega) (pos (by omega) ?_))
      have hne : listFrom b 0 ≠ [] := by rw [← hp]; intro e; rw [e] at h0; exact h0 rfl
      rw [out_last n b hne]
      have hg : (listFrom b 0).getLast hne = p[p.length - 1]'(by omega) := by
        rw [List.getLast_eq_getElem]; simp only [← hp]
      rw [hg]
      by_cases hn : p[p.length - 1]'(by omega) ≥ n
      · refine pos hn (now ?_)
        rw [decide_eq_true (show n ≤ _ from hn)]; rfl
      · refine neg hn (now ?_)
        rw [decide_eq_false (show ¬ n ≤ _ from hn), ← hp]; rfl
  | succ d ih =>
    intro i p hi hp hl
    refine Ev.step (fun k => by simp only [alloc_List.l0]; rfl) ?_
    rw [byte_i (by omega), bit_i]
    refine pos (by omega) (pos (by omega) (pos (by omega) (pos (by omega) ?_)))
    have e : rd b ((i / 8 : Nat) : Int) = b.getD (i / 8) 0 := by unfold rd; rw [Int.toNat_natCast]
    rw [e, w64 (x := (i : Int) + 1) (by omega) (by omega)]
    rw [listFrom_step b i (by omega)] at hp
    by_cases hbit : bitAt b i = true
    · refine neg (fun h => by rw [(and_bit hb i).1 h] at hbit; cases hbit) (pos (by omega) ?_)
      rw [if_pos hbit] at hp
      exact ih (i + 1) (p ++ [(i : Int)]) (by omega) (by rw [← hp]; simp) (by simp; omega)
    · refine pos ((and_bit hb i).2 (by simpa using hbit)) ?_
      rw [if_neg hbit] at hp
      exact ih (i + 1) p (by omega) hp (by omega)
theorem list_ev (b : List Int) (n : Int) (hb : U8 b) (hlen : b.length ≤ 1000000) : Ev (fun k => alloc_List.f k b n) (listSpec b n) := by
  unfold alloc_List.f listSpec
  have bad : Ev (fun k => alloc_List.j0 k b n true) ([], false) := by
    refine Ev.step (fun k => by simp only [alloc_List.j0]; rfl) ?_
    exact pos (by simp) (now rfl)
  refine bindSome (right_eq n) ?_
  by_cases h : 0 ≤ n ∧ n ≤ 4096
  · refine pos (by simpa using h) ?_
    refine bindSome (bytesOf_eq n h.1 h.2) ?_
    by_cases h2 : b.length = (n.toNat + 7) / 8
    · rw [if_pos ⟨h.1, h.2, h2⟩]
      have e : ((b.length : Int) != (((n.toNat + 7) / 8 : Nat) : Int)) = false := by rw [bne_eq_false_iff_eq]; omega
      rw [e]
      refine Ev.step (fun k => by simp only [alloc_List.j0]; rfl) ?_
      refine neg (by simp) ?_
      have e2 : wrap64 (8 * (b.length : Int)) = ((8 * b.length : Nat) : Int) := by rw [w64 (by omega) (by omega)]; omega
      rw [e2]
      exact list_loop b n hb hlen (8 * b.length) 0 [] (by omega) rfl (by simp)
    · rw [if_neg (by omega)]
      have e : ((b.length : Int) != (((n.toNat + 7) / 8 : Nat) : Int)) = true := by rw [bne_iff_ne]; omega
      rw [e]
      exact bad
  · refine neg (by simpa using h) ?_
    rw [if_neg (by omega)]
    exact bad

theorem list_doc_inner (b : List Int) (n : Int) (p : List Int) (i : Nat) (r : List Int × Bool) : ∀ (d : Nat) (t : Nat) (c : Int), t = i % 8 + d → t ≤ 7 → 0 ≤ c → c ≤ 255 →
    Ev (fun k => if Int.tmod (c / 2 ^ d) 2 = 1 then (if (i : Int) ≥ n then (some (([] : List Int), false)) else (if p.length < 17592186044416 then (hanaperref11_List.l0 k b n (p ++ [(i : Int)]) (wrap64 ((i : Int) + 1))) else (none))) else (hanaperref11_List.l0 k b n p (wrap64 ((i : Int) + 1)))) r →
    Ev (fun k => hanaperref11_List.l1 k b n p i c t) r := by
  intro d
  induction d with
  | zero =>
    intro t c ht ht7 h0 h1 h
    refine Ev.step (fun k => by simp only [hanaperref11_List.l1]; rfl) ?_
    rw [bit_i]
    refine neg (by omega) ?_
    simpa using h
  | succ d ih =>
    intro t c ht ht7 h0 h1 h
    refine Ev.step (fun k => by simp only [hanaperref11_List.l1]; rfl) ?_
    rw [bit_i]
    refine pos (by omega) ?_
    have e : wrap64 ((t : Int) - 1) = ((t - 1 : Nat) : Int) := by rw [w64 (by omega) (by omega)]; omega
    rw [e, Int.tdiv_eq_ediv_of_nonneg (by omega), w64 (x := c / 2) (by omega) (by omega)]
    refine ih (t - 1) (c / 2) (by omega) (by omega) (by omega) (by omega) ?_
    have e2 : c / 2 / 2 ^ d = c / 2 ^ (d + 1) := by
      rw [Int.ediv_ediv_of_nonneg (by omega), Int.pow_succ, Int.mul_comm]
    rw [e2]
    exact h
theorem list_doc_loop (b : List Int) (n : Int) (hb : U8 b) (hlen : b.length ≤ 1000000) : ∀ (d i : Nat) (p : List Int), i + d = 8 * b.length → p ++ listFrom b i = listFrom b 0 → p.length ≤ i → outOf n p = false →
    Ev (fun k => hanaperref11_List.l0 k b n p i) (cond (outOf n (listFrom b 0)) ([], false) (listFrom b 0, true)) := by
  intro d
  induction d with
  | zero =>
    intro i p hi hp hl ho
    refine Ev.step (fun k => by simp only [hanaperref11_List.l0]; rfl) ?_
    rw [w64 (x := 8 * (b.length : Int)) (by omega) (by omega)]
    rw [listFrom_end b i (by omega), List.append_nil] at hp
    refine neg (by omega) (now ?_)
    rw [← hp, ho]; rfl
  | succ d ih =>
    intro i p hi hp hl ho
    refine Ev.step (fun k => by simp only [hanaperref11_List.l0]; rfl) ?_
    rw [byte_i (by omega), w64 (x := 8 * (b.length : Int)) (by omega) (by omega)]
    refine pos (by omega) (pos (by omega) (pos (by omega) ?_))
    have e : rd b ((i / 8 : Nat) : Int) = b.getD (i / 8) 0 := by unfold rd; rw [Int.toNat_natCast]
    have hr := getD_u8 hb (i / 8)
    rw [e, w64 (by omega) (by omega)]
    refine list_doc_inner b n p i _ (7 - i % 8) 7 _ (by omega) (by omega) hr.1 hr.2 ?_
    rw [w64 (x := (i : Int) + 1) (by omega) (by omega)]
    have hnn : 0 ≤ b.getD (i / 8) 0 / 2 ^ (7 - i % 8) := Int.ediv_nonneg hr.1 (Int.pow_nonneg (by decide))
    rw [Int.tmod_eq_emod_of_nonneg hnn]
    rw [listFrom_step b i (by omega)] at hp
    by_cases hbit : bitAt b i = true
    · rw [if_pos hbit] at hp
      refine pos (of_decide_eq_true hbit) ?_
      by_cases hn : (i : Int) ≥ n
      · refine pos hn (now ?_)
        rw [← hp, outOf_append]
        have : outOf n ((i : Int) :: listFrom b (i + 1)) = true := by simp [outOf, show n ≤ (i : Int) from hn]
        rw [this, Bool.or_true]; rfl
      · refine neg hn (pos (by omega) ?_)
        refine ih (i + 1) (p ++ [(i : Int)]) (by omega) (by rw [← hp]; simp) (by simp; omega) ?_
        rw [outOf_append, ho]
        simp [outOf, show (i : Int) < n by omega]
    · rw [if_neg hbit] at hp
      refine neg (fun h => hbit (decide_eq_true h)) ?_
      exact ih (i + 1) p (by omega) hp (by omega) ho
theorem list_doc_ev (b : List Int) (n : Int) (hb : U8 b) (hlen : b.length ≤ 1000000) : Ev (fun k => hanaperref11_List.f k b n) (listSpec b n) := by
  unfold hanaperref11_List.f listSpec
  have bad : Ev (fun k => hanaperref11_List.j0 k b n true) ([], false) := by
    refine Ev.step (fun k => by simp only [hanaperref11_List.j0]; rfl) ?_
    exact pos (by simp) (now rfl)
  by_cases h0 : n < 0
  · refine pos h0 ?_
    rw [if_neg (by omega)]; exact bad
  refine neg h0 ?_
  by_cases h1 : n > 4096
  · refine pos h1 ?_
    rw [if_neg (by omega)]; exact bad
  refine neg h1 ?_
  have e0 : wrap64 (Int.tdiv (wrap64 (n + 7)) 8) = (((n.toNat + 7) / 8 : Nat) : Int) := by
    rw [w64 (x := n + 7) (by omega) (by omega), Int.tdiv_eq_ediv_of_nonneg (by omega), w64 (by omega) (by omega)]; omega
  rw [e0]
  by_cases h2 : b.length = (n.toNat + 7) / 8
  · rw [if_pos ⟨by omega, by omega, h2⟩]
    have e : ((b.length : Int) != (((n.toNat + 7) / 8 : Nat) : Int)) = false := by rw [bne_eq_false_iff_eq]; omega
    rw [e]
    refine Ev.step (fun k => by simp only [hanaperref11_List.j0]; rfl) ?_
    refine neg (by simp) ?_
    exact list_doc_loop b n hb hlen (8 * b.length) 0 [] (by omega) rfl (by simp) rfl
  · rw [if_neg (by omega)]
    have e : ((b.length : Int) != (((n.toNat + 7) / 8 : Nat) : Int)) = true := by rw [bne_iff_ne]; omega
    rw [e]
    exact bad
theorem listSpec_len (b : List Int) (n : Int) : (listSpec b n).1.length ≤ 8 * b.length := by
  unfold listSpec
  split
  · cases outOf n (listFrom b 0)
    · simp only [cond_false]
      unfold listFrom
      rw [List.length_map]
      refine Nat.le_trans (List.length_filter_le _ _) ?_
      simp
    · simp
  · simp
theorem bitsSpec_len (l : List Int) (n : Int) : (bitsSpec l n).1.length ≤ 513 := by
  unfold bitsSpec
  split
  · cases incr n (-1) l
    · simp
    · simp only [cond_true]; rw [bitsOf_length]; omega
  · simp
end Go.Proofs.Ytobljmgoengofaa.AllocEv
