import Derived.Test.YtobljmgoengofaaAid
/- The bits of numbers, and the numbers of bits: plain lists. -/
namespace Go.Proofs.Ytobljmgoengofaa.AllocPlain
open Go.RowKit Go.Proofs.YtobljmgoengofaaW.PrintWords Go.Proofs.YtobljmgoengofaaW.PrintLast Go.Proofs.YtobljmgoengofaaW.PrintMore Go.Proofs.Ytobljmgoengofaa.Aid

/-- Rising, above `last`, below `n`. -/
def incr (n : Int) : Int → List Int → Bool
  | _, [] => true
  | last, x :: xs => decide (last < x) && (decide (x < n) && incr n x xs)
/-- Which numbers are in a list. -/
def mem (l : List Int) (i : Nat) : Bool := decide ((i : Int) ∈ l)
def bv (b : Bool) (v : Int) : Int := if b then v else 0
/-- Byte `j` of the bits of `f`. -/
def byteAt (f : Nat → Bool) (j : Nat) : Int :=
  bv (f (8 * j)) 128 + bv (f (8 * j + 1)) 64 + bv (f (8 * j + 2)) 32 + bv (f (8 * j + 3)) 16 + bv (f (8 * j + 4)) 8 + bv (f (8 * j + 5)) 4 + bv (f (8 * j + 6)) 2 + bv (f (8 * j + 7)) 1
/-- The bytes of the bits of `f`, `m` of them. -/
def bitsOf (f : Nat → Bool) (m : Nat) : List Int := (List.range m).map (byteAt f)
/-- Bit `i` of bytes. -/
def bitAt (b : List Int) (i : Nat) : Bool := decide ((b.getD (i / 8) 0 / 2 ^ (7 - i % 8)) % 2 = 1)
/-- The bits of bytes that are set, from `i` on. -/
def listFrom (b : List Int) (i : Nat) : List Int := (((List.range (8 * b.length)).drop i).filter (bitAt b)).map (fun (j : Nat) => (j : Int))
def outOf (n : Int) (l : List Int) : Bool := l.any (fun x => decide (n ≤ x))

theorem or_tab : ∀ b0 b1 b2 b3 b4 b5 b6 b7 : Bool, ∀ k : Fin 8,
    Go.bits .or .u8 (bv b0 128 + bv b1 64 + bv b2 32 + bv b3 16 + bv b4 8 + bv b5 4 + bv b6 2 + bv b7 1) (shr .u8 128 (k.val : Int))
    = bv (b0 || k.val == 0) 128 + bv (b1 || k.val == 1) 64 + bv (b2 || k.val == 2) 32 + bv (b3 || k.val == 3) 16 + bv (b4 || k.val == 4) 8 + bv (b5 || k.val == 5) 4 + bv (b6 || k.val == 6) 2 + bv (b7 || k.val == 7) 1 := by
  decide +kernel
theorem and_tab : ∀ x : Fin 256, ∀ k : Fin 8, decide (Go.bits .and .u8 (x.val : Int) (shr .u8 128 (k.val : Int)) = 0) = !(decide (((x.val : Int) / 2 ^ (7 - k.val)) % 2 = 1)) := by
  decide +kernel
theorem bit_of_byte : ∀ b0 b1 b2 b3 b4 b5 b6 b7 : Bool, ∀ k : Fin 8,
    decide (((bv b0 128 + bv b1 64 + bv b2 32 + bv b3 16 + bv b4 8 + bv b5 4 + bv b6 2 + bv b7 1) / 2 ^ (7 - k.val)) % 2 = 1)
    = (if k.val = 0 then b0 else if k.val = 1 then b1 else if k.val = 2 then b2 else if k.val = 3 then b3 else if k.val = 4 then b4 else if k.val = 5 then b5 else if k.val = 6 then b6 else b7) := by
  decide +kernel

theorem byteAt_range (f : Nat → Bool) (j : Nat) : 0 ≤ byteAt f j ∧ byteAt f j ≤ 255 := by
  unfold byteAt bv
  constructor <;> (repeat' split) <;> omega

theorem byteAt_congr {f g : Nat → Bool} {j : Nat} (h : ∀ i, 8 * j ≤ i → i < 8 * j + 8 → f i = g i) : byteAt f j = byteAt g j := by
  unfold byteAt
  rw [h (8 * j) (by omega) (by omega), h (8 * j + 1) (by omega) (by omega), h (8 * j + 2) (by omega) (by omega), h (8 * j + 3) (by omega) (by omega), h (8 * j + 4) (by omega) (by omega), h (8 * j + 5) (by omega) (by omega), h (8 * j + 6) (by omega) (by omega), h (8 * j + 7) (by omega) (by omega)]

/-- One bit more. -/
theorem byteAt_or {f g : Nat → Bool} {i : Nat} (h : ∀ k, g k = (f k || k == i)) :
    Go.bits .or .u8 (byteAt f (i / 8)) (shr .u8 128 ((i % 8 : Nat) : Int)) = byteAt g (i / 8) := by
  have t := or_tab (f (8 * (i / 8))) (f (8 * (i / 8) + 1)) (f (8 * (i / 8) + 2)) (f (8 * (i / 8) + 3)) (f (8 * (i / 8) + 4)) (f (8 * (i / 8) + 5)) (f (8 * (i / 8) + 6)) (f (8 * (i / 8) + 7)) ⟨i % 8, Nat.mod_lt _ (by decide)⟩
  have e : ∀ c, c < 8 → (8 * (i / 8) + c == i) = (i % 8 == c) := by
    intro c hc
    rw [Bool.eq_iff_iff]; simp; omega
  unfold byteAt
  rw [t]
  have e0 := e 0 (by decide); rw [Nat.add_zero] at e0
  rw [h, h, h, h, h, h, h, h, e0, e 1 (by decide), e 2 (by decide), e 3 (by decide), e 4 (by decide), e 5 (by decide), e 6 (by decide), e 7 (by decide)]

theorem bitsOf_length (f : Nat → Bool) (m : Nat) : (bitsOf f m).length = m := by simp [bitsOf]
theorem bitsOf_get (f : Nat → Bool) (m j : Nat) (h : j < m) : (bitsOf f m).getD j 0 = byteAt f j := by
  simp [bitsOf, List.getD_eq_getElem?_getD, h]
theorem bitsOf_set {f g : Nat → Bool} {i m : Nat} (hi : i / 8 < m) (h : ∀ k, g k = (f k || k == i)) :
    (bitsOf f m).set (i / 8) (byteAt g (i / 8)) = bitsOf g m := by
  apply List.ext_getElem
  · simp [bitsOf]
  · intro j h1 h2
    have hj : j < m := by simpa [bitsOf] using h2
    rw [List.getElem_set]
    split
    · next e => subst e; simp [bitsOf]
    · next e =>
      simp only [bitsOf, List.getElem_map, List.getElem_range]
      apply byteAt_congr
      intro k h3 h4
      rw [h k]
      have : (k == i) = false := by rw [beq_eq_false_iff_ne]; intro e2; subst e2; omega
      rw [this, Bool.or_false]
theorem bitsOf_none (m : Nat) : bitsOf (mem []) m = List.replicate m 0 := by
  rw [List.eq_replicate_iff]
  refine ⟨bitsOf_length _ _, fun b hb => ?_⟩
  simp only [bitsOf, List.mem_map] at hb
  obtain ⟨j, _, rfl⟩ := hb
  simp [byteAt, mem, bv]

theorem incr_take_mem {n : Int} : ∀ {l : List Int} {last : Int}, incr n last l = true → ∀ x ∈ l, last < x ∧ x < n := by
  intro l
  induction l with
  | nil => intro _ _ x hx; cases hx
  | cons y ys ih =>
    intro last h x hx
    simp only [incr, Bool.and_eq_true, decide_eq_true_eq] at h
    rcases List.mem_cons.1 hx with rfl | hx
    · exact ⟨h.1, h.2.1⟩
    · have := ih h.2.2 x hx; exact ⟨by omega, this.2⟩

theorem bitAt_bitsOf (f : Nat → Bool) (m i : Nat) (h : i < 8 * m) : bitAt (bitsOf f m) i = f i := by
  unfold bitAt
  rw [bitsOf_get _ _ _ (by omega)]
  have t := bit_of_byte (f (8 * (i / 8))) (f (8 * (i / 8) + 1)) (f (8 * (i / 8) + 2)) (f (8 * (i / 8) + 3)) (f (8 * (i / 8) + 4)) (f (8 * (i / 8) + 5)) (f (8 * (i / 8) + 6)) (f (8 * (i / 8) + 7)) ⟨i % 8, Nat.mod_lt _ (by decide)⟩
  unfold byteAt
  rw [t]
  clear t
  dsimp only
  have hm : i % 8 = 0 ∨ i % 8 = 1 ∨ i % 8 = 2 ∨ i % 8 = 3 ∨ i % 8 = 4 ∨ i % 8 = 5 ∨ i % 8 = 6 ∨ i % 8 = 7 := by omega
  rcases hm with e | e | e | e | e | e | e | e <;> simp only [e] <;> simp <;> congr 1 <;> omega

theorem listFrom_step (b : List Int) (i : Nat) (h : i < 8 * b.length) : listFrom b i = if bitAt b i then (i : Int) :: listFrom b (i + 1) else listFrom b (i + 1) := by
  unfold listFrom
  rw [drop_cons (List.range (8 * b.length)) i (by simpa using h), List.filter_cons]
  simp only [List.getElem_range]
  split <;> simp
theorem listFrom_end (b : List Int) (i : Nat) (h : 8 * b.length ≤ i) : listFrom b i = [] := by
  unfold listFrom
  rw [List.drop_of_length_le (by simpa using h)]; rfl

/-- A list that rises is what its bits tell. -/
theorem list_bits {n : Int} {l : List Int} (hl : incr n (-1) l = true) (m : Nat) (hm : n ≤ 8 * m) : listFrom (bitsOf (mem l) m) 0 = l := by
  suffices H : ∀ d i (p q : List Int), i + d = 8 * m → l = p ++ q → (∀ x ∈ p, x < i) → incr n ((i : Int) - 1) q = true → listFrom (bitsOf (mem l) m) i = q by
    exact H (8 * m) 0 [] l (by omega) rfl (by simp) (by simpa using hl)
  intro d
  induction d with
  | zero =>
    intro i p q hi hpq hp hq
    rw [listFrom_end _ _ (by rw [bitsOf_length]; omega)]
    cases q with
    | nil => rfl
    | cons y ys =>
      simp only [incr, Bool.and_eq_true, decide_eq_true_eq] at hq
      omega
  | succ d ih =>
    intro i p q hi hpq hp hq
    rw [listFrom_step _ _ (by rw [bitsOf_length]; omega), bitAt_bitsOf _ _ _ (by omega)]
    by_cases hm' : mem l i = true
    · rw [if_pos hm']
      have hin : (i : Int) ∈ q := by
        have : (i : Int) ∈ l := of_decide_eq_true hm'
        rw [hpq] at this
        rcases List.mem_append.1 this with h | h
        · exact absurd (hp _ h) (by omega)
        · exact h
      cases q with
      | nil => cases hin
      | cons y ys =>
        simp only [incr, Bool.and_eq_true, decide_eq_true_eq] at hq
        have hy : y = i := by
          rcases List.mem_cons.1 hin with h | h
          · exact h.symm
          · have := incr_take_mem hq.2.2 _ h; omega
        subst hy
        rw [ih (i + 1) (p ++ [(i : Int)]) ys (by omega) (by rw [hpq]; simp) (by
          intro x hx
          rcases List.mem_append.1 hx with h | h
          · have := hp x h; omega
          · rw [List.mem_singleton.1 h]; omega) (by
          have : ((i + 1 : Nat) : Int) - 1 = i := by omega
          rw [this]; exact hq.2.2)]
    · rw [if_neg hm']
      have hno : (i : Int) ∉ l := fun h => hm' (decide_eq_true h)
      refine ih (i + 1) p q (by omega) hpq (fun x hx => by have := hp x hx; omega) ?_
      cases q with
      | nil => rfl
      | cons y ys =>
        simp only [incr, Bool.and_eq_true, decide_eq_true_eq] at hq ⊢
        refine ⟨?_, hq.2⟩
        have : y ≠ i := fun e => hno (by rw [hpq]; exact List.mem_append_right _ (by rw [e]; exact List.mem_cons_self ..))
        omega
end Go.Proofs.Ytobljmgoengofaa.AllocPlain
