import Derived.Test.YtgdpabedlghiaaaBase
import Derived.Test.YtgdpabedlghiaaaPZxFhanaperref01SameInts
import Derived.Test.YtgdpabedlghiaaaPZxFallocBits
import Derived.Test.YtgdpabedlghiaaaPZxFallocList
import Derived.Test.YtgdpabedlghiaaaPZxFhanaperref11Bits
import Derived.Test.YtgdpabedlghiaaaPZxFhanaperref11List
import Derived.Test.YtgdpabedlghiaaaPZxFhanaperref11Has
import Derived.Test.YtgdpabedlghiaaaPZxFallocright
import Derived.Test.YtgdpabedlghiaaaPZxFallocbytesOf
import Derived.Test.YtgdpabedlghiaaaPZxFtlvNum
import Derived.Test.YtgdpabedlghiaaaPZxFtlvText
import Derived.Test.YtgdpabedlghiaaaPZxFtlvInt
import Derived.Test.YtgdpabedlghiaaaPZxFtlvAll
import Derived.Test.YtgdpabedlghiaaaPZxFhanaperref01Num
import Derived.Test.YtgdpabedlghiaaaPZxFhanaperref01Text
import Derived.Test.YtgdpabedlghiaaaPZxFhanaperref01Int
import Derived.Test.YtgdpabedlghiaaaPZxFhanaperref01Same
import Derived.Test.YtgdpabedlghiaaaPZxFhanaperref01Copy
import Derived.Test.YtgdpabedlghiaaaPZxFhanaperref01Value
import Derived.Test.YtgdpabedlghiaaaHName
import Derived.Test.YtgdpabedlghiaaaPZxFhanaperref12Name
import Derived.Test.YtgdpabedlghiaaaPZxFinodeCheck
import Derived.Test.YtgdpabedlghiaaaPZxFhanaperref12May
import Derived.Test.YtgdpabedlghiaaaPZxFallocPages
import Derived.Test.YtgdpabedlghiaaaPZxFhanaperref11Pages
import Derived.Deep.RegionLaw
import Derived.Test.YtgdpabedlghiaaaPZxFhanaperlaw12num
import Derived.Test.YtgdpabedlghiaaaPZxFhanaperlaw12huge
import Derived.ProofKit
import Derived.Deep.Slices
/- What a reader of bytes answers, in plain words: its state is the bytes that are left, or that it failed. -/
namespace Go.Proofs.Ytgdpabedlghiaaa.TlvPlain
open Go.Proofs.Ytgdpabedlghiaaa.Base Go.RowKit Go.Proofs.YtgdpabedlghiaaaW.PrintWords

def U8 (b : List Int) : Prop := ∀ x ∈ b, 0 ≤ x ∧ x ≤ 255
theorem U8.take {b : List Int} (h : U8 b) (n : Nat) : U8 (b.take n) := fun x hx => h x (List.mem_of_mem_take hx)
theorem U8.drop {b : List Int} (h : U8 b) (n : Nat) : U8 (b.drop n) := fun x hx => h x (List.mem_of_mem_drop hx)
theorem U8.nil : U8 [] := fun _ h => by cases h
theorem U8.append {a b : List Int} (h : U8 a) (k : U8 b) : U8 (a ++ b) := fun x hx => (List.mem_append.1 hx).elim (h x) (k x)
theorem U8.cons {x : Int} {b : List Int} (h : 0 ≤ x ∧ x ≤ 255) (k : U8 b) : U8 (x :: b) := fun y hy => (List.mem_cons.1 hy).elim (fun e => e ▸ h) (k y)
theorem U8.head {x : Int} {b : List Int} (h : U8 (x :: b)) : 0 ≤ x ∧ x ≤ 255 := h x (List.mem_cons_self ..)
theorem U8.tail {x : Int} {b : List Int} (h : U8 (x :: b)) : U8 b := fun y hy => h y (List.mem_cons_of_mem _ hy)

def takeO (st : Option (List Int)) (n : Int) : List Int × Option (List Int) :=
  match st with
  | some bs => if 0 ≤ n ∧ n ≤ bs.length then (bs.take n.toNat, some (bs.drop n.toNat)) else ([], none)
  | none => ([], none)
/-- The number of bytes, the highest first. -/
def valueB (l : List Int) : Int := l.foldl (fun n c => n * 256 + c) 0
def numO (st : Option (List Int)) : Int × Option (List Int) :=
  match st with
  | some (x :: r) =>
    if x > 8 then (0, none) else
    if (r.length : Int) < x then (0, none) else
    if 0 < x ∧ r.getD 0 0 = 0 then (0, none) else (valueB (r.take x.toNat), some (r.drop x.toNat))
  | _ => (0, none)
def countO (st : Option (List Int)) (most : Int) : Int × Option (List Int) :=
  if most < 0 ∨ (numO st).1 > most then (0, none) else numO st
def textO (st : Option (List Int)) (most : Int) : List Int × Option (List Int) := takeO (countO st most).2 (countO st most).1
def leftO (st : Option (List Int)) : Int := match st with | some bs => bs.length | none => 0

theorem valueB_snoc (l : List Int) (c : Int) : valueB (l ++ [c]) = valueB l * 256 + c := by simp [valueB]
theorem valueB_range {l : List Int} (h : U8 l) : 0 ≤ valueB l ∧ valueB l < 256 ^ l.length := by
  have H : ∀ n (l : List Int), l.length = n → U8 l → 0 ≤ valueB l ∧ valueB l < 256 ^ l.length := by
    intro n
    induction n with
    | zero =>
      intro l hl _
      have : l = [] := List.length_eq_zero_iff.1 hl
      subst this
      simp [valueB]
    | succ n ih =>
      intro l hl hu
      have hne : l ≠ [] := by intro e; rw [e] at hl; cases hl
      rw [← List.dropLast_concat_getLast hne, valueB_snoc]
      have h1 := ih l.dropLast (by simp [hl]) (fun x hx => hu x ((List.dropLast_sublist l).subset hx))
      have h2 := hu (l.getLast hne) (List.getLast_mem hne)
      rw [List.length_append, List.length_singleton, Int.pow_succ]
      omega
  exact H _ l rfl h
theorem valueB_u64 {l : List Int} (h : U8 l) (hl : l.length ≤ 8) : 0 ≤ valueB l ∧ valueB l ≤ 18446744073709551615 := by
  have := valueB_range h
  have key : ∀ n : Nat, n ≤ 8 → (256 : Int) ^ n ≤ 18446744073709551616 := by
    intro n hn
    have : n = 0 ∨ n = 1 ∨ n = 2 ∨ n = 3 ∨ n = 4 ∨ n = 5 ∨ n = 6 ∨ n = 7 ∨ n = 8 := by omega
    rcases this with rfl | rfl | rfl | rfl | rfl | rfl | rfl | rfl | rfl <;> decide +kernel
  have := key _ hl
  omega
/-- One byte more at the end: in words of 64 bits. -/
theorem or_byte (n c : Int) (hn0 : 0 ≤ n) (hn : n * 256 + 255 ≤ 18446744073709551615) (hc0 : 0 ≤ c) (hc : c ≤ 255) : Go.bits .or .u64 (n * 256) c = n * 256 + c := by
  obtain ⟨a, rfl⟩ := Int.eq_ofNat_of_zero_le hn0
  obtain ⟨b, rfl⟩ := Int.eq_ofNat_of_zero_le hc0
  have e1 : BitVec.ofInt IntKind.u64.bits ((a : Int) * 256) = BitVec.ofNat 64 (a * 256) := by
    rw [show ((a : Int) * 256) = ((a * 256 : Nat) : Int) from by omega]; rfl
  have e2 : BitVec.ofInt IntKind.u64.bits (b : Int) = BitVec.ofNat 64 b := rfl
  have e3 : (BitVec.ofNat 64 (a * 256) ||| BitVec.ofNat 64 b).toNat = a * 256 + b := by
    rw [BitVec.toNat_or, BitVec.toNat_ofNat, BitVec.toNat_ofNat, Nat.mod_eq_of_lt (by omega), Nat.mod_eq_of_lt (by omega)]
    have := Nat.shiftLeft_add_eq_or_of_lt (i := 8) (b := b) (show b < 2 ^ 8 by omega) a
    rw [Nat.shiftLeft_eq] at this
    exact this.symm
  unfold Go.bits
  simp only [e1, e2]
  show IntKind.u64.wrap (((BitVec.ofNat 64 (a * 256) ||| BitVec.ofNat 64 b : BitVec 64).toNat : Nat) : Int) = _
  rw [e3]
  exact IntWalk.u64_in _ (by omega)
theorem numO_range {st : Option (List Int)} (hu : ∀ bs, st = some bs → U8 bs) : 0 ≤ (numO st).1 ∧ (numO st).1 ≤ 18446744073709551615 := by
  unfold numO
  split
  · next x r =>
    split
    · simp
    · split
      · simp
      · split
        · simp
        · exact valueB_u64 ((hu _ rfl).tail.take _) (by rw [List.length_take]; omega)
  · simp
theorem numO_u8 {st : Option (List Int)} (hu : ∀ bs, st = some bs → U8 bs) : ∀ bs, (numO st).2 = some bs → U8 bs := by
  intro bs
  unfold numO
  split
  · next x r =>
    split
    · simp
    · split
      · simp
      · split
        · simp
        · intro h
          injection h with h
          subst h
          exact (hu _ rfl).tail.drop _
  · simp
theorem takeO_u8 {st : Option (List Int)} (hu : ∀ bs, st = some bs → U8 bs) (n : Int) : U8 (takeO st n).1 ∧ ∀ bs, (takeO st n).2 = some bs → U8 bs := by
  unfold takeO
  split
  · next bs =>
    split
    · refine ⟨(hu _ rfl).take _, fun b h => ?_⟩
      injection h with h
      subst h
      exact (hu _ rfl).drop _
    · exact ⟨U8.nil, by simp⟩
  · exact ⟨U8.nil, by simp⟩
theorem countO_u8 {st : Option (List Int)} (hu : ∀ bs, st = some bs → U8 bs) (m : Int) : ∀ bs, (countO st m).2 = some bs → U8 bs := by
  intro bs
  unfold countO
  split
  · simp
  · exact numO_u8 hu bs
end Go.Proofs.Ytgdpabedlghiaaa.TlvPlain
/- The bits of numbers, and the numbers of bits: plain lists. -/
namespace Go.Proofs.Ytgdpabedlghiaaa.AllocPlain
open Go.RowKit Go.Proofs.YtgdpabedlghiaaaW.PrintWords Go.Proofs.YtgdpabedlghiaaaW.PrintLast Go.Proofs.YtgdpabedlghiaaaW.PrintMore Go.Proofs.Ytgdpabedlghiaaa.Aid

/-- Rising, above `last`, below `n`. -/
def incr (n : Int) : Int → List Int → Bool
  | _, [] => true
  | last, x :: xs => decide (last < x) && (decide (x < n) && incr n x xs)
/-- Which numbers are in a list. -/
def mem (l : List Int) (i : Nat) : Bool := decide ((i : Int) ∈ l)
def bv (b : Bool) (v : Int) : Int := if b then v else 0
/-- Byte `j` of the bits of `f`. -/
def byteAt (f : Nat → Bool) (j : Nat) : Int :=
  bv (f (8 * j)) 128 + bv (f (8 * j + 1)) 64 + bv (f (8 * j + 2)) 32 + bv (f (8 * j + 3)) 16 + bv (f (8 * j + 4)) 8 + bv (f (8 * j + 5)) 4 + bv (f (8 * j + 6)) 2 + bv (f (8 * j + 7)) 1
/-- The bytes of the bits of `f`, `m` of them. -/
def bitsOf (f : Nat → Bool) (m : Nat) : List Int := (List.range m).map (byteAt f)
/-- Bit `i` of bytes. -/
def bitAt (b : List Int) (i : Nat) : Bool := decide ((b.getD (i / 8) 0 / 2 ^ (7 - i % 8)) % 2 = 1)
/-- The bits of bytes that are set, from `i` on. -/
def listFrom (b : List Int) (i : Nat) : List Int := (((List.range (8 * b.length)).drop i).filter (bitAt b)).map (fun (j : Nat) => (j : Int))
def outOf (n : Int) (l : List Int) : Bool := l.any (fun x => decide (n ≤ x))

theorem or_tab : ∀ b0 b1 b2 b3 b4 b5 b6 b7 : Bool, ∀ k : Fin 8,
    Go.bits .or .u8 (bv b0 128 + bv b1 64 + bv b2 32 + bv b3 16 + bv b4 8 + bv b5 4 + bv b6 2 + bv b7 1) (shr .u8 128 (k.val : Int))
    = bv (b0 || k.val == 0) 128 + bv (b1 || k.val == 1) 64 + bv (b2 || k.val == 2) 32 + bv (b3 || k.val == 3) 16 + bv (b4 || k.val == 4) 8 + bv (b5 || k.val == 5) 4 + bv (b6 || k.val == 6) 2 + bv (b7 || k.val == 7) 1 := by
  decide +kernel
theorem and_tab : ∀ x : Fin 256, ∀ k : Fin 8, decide (Go.bits .and .u8 (x.val : Int) (shr .u8 128 (k.val : Int)) = 0) = !(decide (((x.val : Int) / 2 ^ (7 - k.val)) % 2 = 1)) := by
  decide +kernel
theorem bit_of_byte : ∀ b0 b1 b2 b3 b4 b5 b6 b7 : Bool, ∀ k : Fin 8,
    decide (((bv b0 128 + bv b1 64 + bv b2 32 + bv b3 16 + bv b4 8 + bv b5 4 + bv b6 2 + bv b7 1) / 2 ^ (7 - k.val)) % 2 = 1)
    = (if k.val = 0 then b0 else if k.val = 1 then b1 else if k.val = 2 then b2 else if k.val = 3 then b3 else if k.val = 4 then b4 else if k.val = 5 then b5 else if k.val = 6 then b6 else b7) := by
  decide +kernel

theorem byteAt_range (f : Nat → Bool) (j : Nat) : 0 ≤ byteAt f j ∧ byteAt f j ≤ 255 := by
  unfold byteAt bv
  constructor <;> (repeat' split) <;> omega

theorem byteAt_congr {f g : Nat → Bool} {j : Nat} (h : ∀ i, 8 * j ≤ i → i < 8 * j + 8 → f i = g i) : byteAt f j = byteAt g j := by
  unfold byteAt
  rw [h (8 * j) (by omega) (by omega), h (8 * j + 1) (by omega) (by omega), h (8 * j + 2) (by omega) (by omega), h (8 * j + 3) (by omega) (by omega), h (8 * j + 4) (by omega) (by omega), h (8 * j + 5) (by omega) (by omega), h (8 * j + 6) (by omega) (by omega), h (8 * j + 7) (by omega) (by omega)]

/-- One bit more. -/
theorem byteAt_or {f g : Nat → Bool} {i : Nat} (h : ∀ k, g k = (f k || k == i)) :
    Go.bits .or .u8 (byteAt f (i / 8)) (shr .u8 128 ((i % 8 : Nat) : Int)) = byteAt g (i / 8) := by
  have t := or_tab (f (8 * (i / 8))) (f (8 * (i / 8) + 1)) (f (8 * (i / 8) + 2)) (f (8 * (i / 8) + 3)) (f (8 * (i / 8) + 4)) (f (8 * (i / 8) + 5)) (f (8 * (i / 8) + 6)) (f (8 * (i / 8) + 7)) ⟨i % 8, Nat.mod_lt _ (by decide)⟩
  have e : ∀ c, c < 8 → (8 * (i / 8) + c == i) = (i % 8 == c) := by
    intro c hc
    rw [Bool.eq_iff_iff]; simp; omega
  unfold byteAt
  rw [t]
  have e0 := e 0 (by decide); rw [Nat.add_zero] at e0
  rw [h, h, h, h, h, h, h, h, e0, e 1 (by decide), e 2 (by decide), e 3 (by decide), e 4 (by decide), e 5 (by decide), e 6 (by decide), e 7 (by decide)]

theorem bitsOf_length (f : Nat → Bool) (m : Nat) : (bitsOf f m).length = m := by simp [bitsOf]
theorem bitsOf_get (f : Nat → Bool) (m j : Nat) (h : j < m) : (bitsOf f m).getD j 0 = byteAt f j := by
  simp [bitsOf, List.getD_eq_getElem?_getD, h]
theorem bitsOf_set {f g : Nat → Bool} {i m : Nat} (hi : i / 8 < m) (h : ∀ k, g k = (f k || k == i)) :
    (bitsOf f m).set (i / 8) (byteAt g (i / 8)) = bitsOf g m := by
  apply List.ext_getElem
  · simp [bitsOf]
  · intro j h1 h2
    have hj : j < m := by simpa [bitsOf] using h2
    rw [List.getElem_set]
    split
    · next e => subst e; simp [bitsOf]
    · next e =>
      simp only [bitsOf, List.getElem_map, List.getElem_range]
      apply byteAt_congr
      intro k h3 h4
      rw [h k]
      have : (k == i) = false := by rw [beq_eq_false_iff_ne]; intro e2; subst e2; omega
      rw [this, Bool.or_false]
theorem bitsOf_none (m : Nat) : bitsOf (mem []) m = List.replicate m 0 := by
  rw [List.eq_replicate_iff]
  refine ⟨bitsOf_length _ _, fun b hb => ?_⟩
  simp only [bitsOf, List.mem_map] at hb
  obtain ⟨j, _, rfl⟩ := hb
  simp [byteAt, mem, bv]

theorem incr_take_mem {n : Int} : ∀ {l : List Int} {last : Int}, incr n last l = true → ∀ x ∈ l, last < x ∧ x < n := by
  intro l
  induction l with
  | nil => intro _ _ x hx; cases hx
  | cons y ys ih =>
    intro last h x hx
    simp only [incr, Bool.and_eq_true, decide_eq_true_eq] at h
    rcases List.mem_cons.1 hx with rfl | hx
    · exact ⟨h.1, h.2.1⟩
    · have := ih h.2.2 x hx; exact ⟨by omega, this.2⟩

theorem bitAt_bitsOf (f : Nat → Bool) (m i : Nat) (h : i < 8 * m) : bitAt (bitsOf f m) i = f i := by
  unfold bitAt
  rw [bitsOf_get _ _ _ (by omega)]
  have t := bit_of_byte (f (8 * (i / 8))) (f (8 * (i / 8) + 1)) (f (8 * (i / 8) + 2)) (f (8 * (i / 8) + 3)) (f (8 * (i / 8) + 4)) (f (8 * (i / 8) + 5)) (f (8 * (i / 8) + 6)) (f (8 * (i / 8) + 7)) ⟨i % 8, Nat.mod_lt _ (by decide)⟩
  unfold byteAt
  rw [t]
  clear t
  dsimp only
  have hm : i % 8 = 0 ∨ i % 8 = 1 ∨ i % 8 = 2 ∨ i % 8 = 3 ∨ i % 8 = 4 ∨ i % 8 = 5 ∨ i % 8 = 6 ∨ i % 8 = 7 := by omega
  rcases hm with e | e | e | e | e | e | e | e <;> simp only [e] <;> simp <;> congr 1 <;> omega

theorem listFrom_step (b : List Int) (i : Nat) (h : i < 8 * b.length) : listFrom b i = if bitAt b i then (i : Int) :: listFrom b (i + 1) else listFrom b (i + 1) := by
  unfold listFrom
  rw [drop_cons (List.range (8 * b.length)) i (by simpa using h), List.filter_cons]
  simp only [List.getElem_range]
  split <;> simp
theorem listFrom_end (b : List Int) (i : Nat) (h : 8 * b.length ≤ i) : listFrom b i = [] := by
  unfold listFrom
  rw [List.drop_of_length_le (by simpa using h)]; rfl

/-- A list that rises is what its bits tell. -/
theorem list_bits {n : Int} {l : List Int} (hl : incr n (-1) l = true) (m : Nat) (hm : n ≤ 8 * m) : listFrom (bitsOf (mem l) m) 0 = l := by
  suffices H : ∀ d i (p q : List Int), i + d = 8 * m → l = p ++ q → (∀ x ∈ p, x < i) → incr n ((i : Int) - 1) q = true → listFrom (bitsOf (mem l) m) i = q by
    exact H (8 * m) 0 [] l (by omega) rfl (by simp) (by simpa using hl)
  intro d
  induction d with
  | zero =>
    intro i p q hi hpq hp hq
    rw [listFrom_end _ _ (by rw [bitsOf_length]; omega)]
    cases q with
    | nil => rfl
    | cons y ys =>
      simp only [incr, Bool.and_eq_true, decide_eq_true_eq] at hq
      omega
  | succ d ih =>
    intro i p q hi hpq hp hq
    rw [listFrom_step _ _ (by rw [bitsOf_length]; omega), bitAt_bitsOf _ _ _ (by omega)]
    by_cases hm' : mem l i = true
    · rw [if_pos hm']
      have hin : (i : Int) ∈ q := by
        have : (i : Int) ∈ l := of_decide_eq_true hm'
        rw [hpq] at this
        rcases List.mem_append.1 this with h | h
        · exact absurd (hp _ h) (by omega)
        · exact h
      cases q with
      | nil => cases hin
      | cons y ys =>
        simp only [incr, Bool.and_eq_true, decide_eq_true_eq] at hq
        have hy : y = i := by
          rcases List.mem_cons.1 hin with h | h
          · exact h.symm
          · have := incr_take_mem hq.2.2 _ h; omega
        subst hy
        rw [ih (i + 1) (p ++ [(i : Int)]) ys (by omega) (by rw [hpq]; simp) (by
          intro x hx
          rcases List.mem_append.1 hx with h | h
          · have := hp x h; omega
          · rw [List.mem_singleton.1 h]; omega) (by
          have : ((i + 1 : Nat) : Int) - 1 = i := by omega
          rw [this]; exact hq.2.2)]
    · rw [if_neg hm']
      have hno : (i : Int) ∉ l := fun h => hm' (decide_eq_true h)
      refine ih (i + 1) p q (by omega) hpq (fun x hx => by have := hp x hx; omega) ?_
      cases q with
      | nil => rfl
      | cons y ys =>
        simp only [incr, Bool.and_eq_true, decide_eq_true_eq] at hq ⊢
        refine ⟨?_, hq.2⟩
        have : y ≠ i := fun e => hno (by rw [hpq]; exact List.mem_append_right _ (by rw [e]; exact List.mem_cons_self ..))
        omega
end Go.Proofs.Ytgdpabedlghiaaa.AllocPlain
/- What the functions of the first chapters come to, with rounds enough. -/
namespace Go.Proofs.Ytgdpabedlghiaaa.AllocEv
open Go.Proofs.Ytgdpabedlghiaaa.TlvPlain Go.RowKit Go.Proofs.YtgdpabedlghiaaaW.PrintWords Go.Proofs.YtgdpabedlghiaaaW.PrintLast Go.Proofs.YtgdpabedlghiaaaW.PrintMore Go.Proofs.Ytgdpabedlghiaaa.Aid Go.Proofs.Ytgdpabedlghiaaa.AllocPlain Go.Proofs.Ytgdpabedlghiaaa.PZ

/-! ### lists that are the same -/
theorem sameInts_from (a b : List Int) (hl : a.length = b.length) (hn : a.length ≤ 4611686018427387904) : ∀ (d i : Nat), i + d = a.length →
    Ev (fun k => hanaperref01_SameInts.l0 k a b i) (decide (a.drop i = b.drop i)) := by
  intro d
  induction d with
  | zero =>
    intro i hi
    refine Ev.step (fun k => by simp only [hanaperref01_SameInts.l0]; rfl) ?_
    refine neg (by omega) (now ?_)
    rw [List.drop_of_length_le (by omega), List.drop_of_length_le (by omega)]; simp
  | succ d ih =>
    intro i hi
    refine Ev.step (fun k => by simp only [hanaperref01_SameInts.l0]; rfl) ?_
    refine pos (by omega) (pos (by omega) (pos (by omega) ?_))
    rw [rd_nat a i (by omega), rd_nat b i (by omega), drop_cons a i (by omega), drop_cons b i (by omega), inc (show i < a.length by omega) hn]
    by_cases e : a[i]'(by omega) = b[i]'(by omega)
    · refine pos e ?_
      have := ih (i + 1) (by omega)
      generalize a.drop (i + 1) = A at this ⊢
      generalize b.drop (i + 1) = B at this ⊢
      simpa [e] using this
    · refine neg e (now ?_)
      generalize a.drop (i + 1) = A
      generalize b.drop (i + 1) = B
      simp [e]
theorem sameInts_ev (a b : List Int) (hn : a.length ≤ 4611686018427387904) : Ev (fun k => hanaperref01_SameInts.f k a b) (decide (a = b)) := by
  unfold hanaperref01_SameInts.f
  by_cases e : a.length = b.length
  · refine pos (by omega) ?_
    simpa using sameInts_from a b e hn a.length 0 (by omega)
  · refine neg (by omega) (now ?_)
    have : a ≠ b := fun h => e (by rw [h])
    simp [this]

/-! ### numbers as bits -/
def bitsSpec (l : List Int) (n : Int) : List Int × Bool := if 0 ≤ n ∧ n ≤ 4096 then cond (incr n (-1) l) (bitsOf (mem l) ((n.toNat + 7) / 8), true) ([], false) else ([], false)
theorem right_eq (n : Int) : alloc_right.f n = some (decide (0 ≤ n ∧ n ≤ 4096)) := by
  unfold alloc_right.f
  by_cases h : n ≥ 0
  · rw [if_pos h]; simp [h]
  · rw [if_neg h]; simp; omega
theorem bytesOf_eq (n : Int) (h0 : 0 ≤ n) (h1 : n ≤ 4096) : alloc_bytesOf.f n = some (((n.toNat + 7) / 8 : Nat) : Int) := by
  unfold alloc_bytesOf.f
  rw [w64 (x := n + 8) (by omega) (by omega), w64 (x := n + 8 - 1) (by omega) (by omega), Int.tdiv_eq_ediv_of_nonneg (by omega), w64 (by omega) (by omega)]
  congr 1; omega

theorem mem_snoc (p : List Int) (x : Int) (hx : 0 ≤ x) : ∀ k, mem (p ++ [x]) k = (mem p k || k == x.toNat) := by
  intro k
  unfold mem
  rw [Bool.eq_iff_iff, Bool.or_eq_true, decide_eq_true_eq, decide_eq_true_eq, beq_iff_eq, List.mem_append, List.mem_singleton]
  constructor
  · rintro (h | h)
    · exact .inl h
    · exact .inr (by omega)
  · rintro (h | h)
    · exact .inl h
    · exact .inr (by omega)

theorem bits_loop (n : Int) (l : List Int) (hn0 : 0 ≤ n) (hn : n ≤ 4096) (hlen : l.length ≤ 4611686018427387904) : ∀ (d i : Nat) (last : Int), i + d = l.length → -1 ≤ last →
    Ev (fun k => alloc_Bits.l0 k n (bitsOf (mem (l.take i)) ((n.toNat + 7) / 8)) last l (l.length : Int) i)
      (cond (incr n last (l.drop i)) (bitsOf (mem l) ((n.toNat + 7) / 8), true) ([], false)) := by
  intro d
  induction d with
  | zero =>
    intro i last hi hlast
    refine Ev.step (fun k => by simp only [alloc_Bits.l0]; rfl) ?_
    refine neg (by omega) (now ?_)
    rw [List.drop_of_length_le (by omega), List.take_of_length_le (by omega)]; rfl
  | succ d ih =>
    intro i last hi hlast
    have hil : i < l.length := by omega
    refine Ev.step (fun k => by simp only [alloc_Bits.l0]; rfl) ?_
    refine pos (by omega) (pos (by omega) (pos (by omega) ?_))
    rw [rd_nat l i hil, drop_cons l i hil]
    simp only [incr]
    generalize hx : l[i] = x
    by_cases h1 : x ≤ last
    · refine pos h1 (now ?_)
      rw [decide_eq_false (by omega)]; rfl
    refine neg h1 ?_
    by_cases h2 : x ≥ n
    · refine pos h2 (now ?_)
      rw [decide_eq_false (show ¬ x < n by omega)]; simp
    refine neg h2 ?_
    have e1 : wrap64 (Int.tdiv x 8) = ((x.toNat / 8 : Nat) : Int) := by
      rw [Int.tdiv_eq_ediv_of_nonneg (by omega), w64 (by omega) (by omega)]; omega
    have e2 : Int.tmod x 8 = ((x.toNat % 8 : Nat) : Int) := by rw [Int.tmod_eq_emod_of_nonneg (by omega)]; omega
    rw [e1, e2]
    refine pos (by omega) (pos ?_ (pos (by omega) ?_))
    · rw [bitsOf_length]; omega
    rw [decide_eq_true (show last < x by omega), decide_eq_true (show x < n by omega), Bool.true_and, Bool.true_and, inc hil hlen]
    have e3 : rd (bitsOf (mem (l.take i)) ((n.toNat + 7) / 8)) ((x.toNat / 8 : Nat) : Int) = byteAt (mem (l.take i)) (x.toNat / 8) := by
      unfold rd; rw [Int.toNat_natCast, bitsOf_get _ _ _ (by omega)]
    rw [e3, Int.toNat_natCast, byteAt_or (mem_snoc (l.take i) x (by omega)), bitsOf_set (by omega) (mem_snoc (l.take i) x (by omega))]
    have e4 : l.take i ++ [x] = l.take (i + 1) := by rw [List.take_succ_eq_append_getElem hil, hx]
    rw [e4]
    exact ih (i + 1) x (by omega) (by omega)
theorem bits_ev (l : List Int) (n : Int) (hlen : l.length ≤ 4611686018427387904) : Ev (fun k => alloc_Bits.f k l n) (bitsSpec l n) := by
  unfold alloc_Bits.f bitsSpec
  refine bindSome (right_eq n) ?_
  by_cases h : 0 ≤ n ∧ n ≤ 4096
  · refine pos (by simpa using h) ?_
    refine bindSome (bytesOf_eq n h.1 h.2) (pos (by omega) (pos (by omega) ?_))
    have := bits_loop n l h.1 h.2 hlen l.length 0 (-1) (by omega) (by omega)
    rw [List.take_zero, bitsOf_none, List.drop_zero] at this
    rw [if_pos h]
    exact this
  · refine neg (by simpa using h) (now ?_)
    rw [if_neg h]

/-! ### the document's -/
theorem has_loop (l : List Int) (x : Int) (hlen : l.length ≤ 4611686018427387904) : ∀ (d i : Nat), i + d = l.length →
    Ev (fun k => hanaperref11_Has.l0 k l x i) (decide (x ∈ l.drop i)) := by
  intro d
  induction d with
  | zero =>
    intro i hi
    refine Ev.step (fun k => by simp only [hanaperref11_Has.l0]; rfl) ?_
    refine neg (by omega) (now ?_)
    rw [List.drop_of_length_le (by omega)]; simp
  | succ d ih =>
    intro i hi
    have hil : i < l.length := by omega
    refine Ev.step (fun k => by simp only [hanaperref11_Has.l0]; rfl) ?_
    refine pos (by omega) (pos (by omega) ?_)
    rw [rd_nat l i hil, drop_cons l i hil, inc hil hlen]
    by_cases e : l[i] = x
    · exact pos e (now (by simp [e]))
    · refine neg e ?_
      have e' : ¬ x = l[i] := fun h => e h.symm
      have := ih (i + 1) (by omega)
      generalize l.drop (i + 1) = L at this ⊢
      simpa [e'] using this
theorem has_ev (l : List Int) (x : Int) (hlen : l.length ≤ 4611686018427387904) : Ev (fun k => hanaperref11_Has.f k l x) (decide (x ∈ l)) := by
  unfold hanaperref11_Has.f
  simpa using has_loop l x hlen l.length 0 (by omega)

theorem bits_doc_inner (l : List Int) (n : Int) (hn : n ≤ 4096) (hlen : l.length ≤ 4611686018427387904) (out : List Int) (j : Nat) (hj : 8 * (j : Int) < n) (ho : out.length ≤ 600) (r : List Int × Bool)
    (h : Ev (fun k => hanaperref11_Bits.l1 k l n (out ++ [byteAt (mem l) j]) ((8 * (j + 1) : Nat) : Int)) r) :
    Ev (fun k => hanaperref11_Bits.l2 k l n out ((8 * j : Nat) : Int) 0 0) r := by
  have st : ∀ (c t : Int) (i : Nat), i < 8 → 0 ≤ c → c ≤ 255 → wrap64 (2 * c) + 0 = t → ∀ r, (∀ b, b = mem l (8 * j + i) → Ev (fun k => hanaperref11_Bits.l2 k l n out ((8 * j : Nat) : Int) (2 * c + bv b 1) ((i + 1 : Nat) : Int)) r) → Ev (fun k => hanaperref11_Bits.l2 k l n out ((8 * j : Nat) : Int) c (i : Int)) r := by
    intro c t i hi hc0 hc1 _ r hr
    refine Ev.step (fun k => by simp only [hanaperref11_Bits.l2]; rfl) ?_
    refine pos (by omega) ?_
    rw [w64 (x := ((8 * j : Nat) : Int) + (i : Int)) (by omega) (by omega), w64 (x := 2 * c) (by omega) (by omega), w64 (x := 2 * c + 1) (by omega) (by omega), w64 (x := (i : Int) + 1) (by omega) (by omega)]
    refine evBind (has_ev l _ hlen) ?_
    have e : (((8 * j : Nat) : Int) + (i : Int)) = ((8 * j + i : Nat) : Int) := by omega
    rw [e]
    by_cases hb : ((8 * j + i : Nat) : Int) ∈ l
    · refine pos (by simpa using hb) ?_
      have := hr true (by unfold mem; rw [decide_eq_true hb])
      simpa [bv] using this
    · refine neg (by simpa using hb) ?_
      have := hr false (by unfold mem; rw [decide_eq_false hb])
      simpa [bv] using this
  have bvr : ∀ b, bv b 1 = 0 ∨ bv b 1 = 1 := by intro b; cases b <;> simp [bv]
  refine st 0 0 0 (by omega) (by omega) (by omega) (by rw [w64] <;> omega) _ fun b0 h0 => ?_
  have r0 := bvr b0
  refine st _ _ 1 (by omega) (by omega) (by omega) rfl _ fun b1 h1 => ?_
  have r1 := bvr b1
  refine st _ _ 2 (by omega) (by omega) (by omega) rfl _ fun b2 h2 => ?_
  have r2 := bvr b2
  refine st _ _ 3 (by omega) (by omega) (by omega) rfl _ fun b3 h3 => ?_
  have r3 := bvr b3
  refine st _ _ 4 (by omega) (by omega) (by omega) rfl _ fun b4 h4 => ?_
  have r4 := bvr b4
  refine st _ _ 5 (by omega) (by omega) (by omega) rfl _ fun b5 h5 => ?_
  have r5 := bvr b5
  refine st _ _ 6 (by omega) (by omega) (by omega) rfl _ fun b6 h6 => ?_
  have r6 := bvr b6
  refine st _ _ 7 (by omega) (by omega) (by omega) rfl _ fun b7 h7 => ?_
  have r7 := bvr b7
  refine Ev.step (fun k => by simp only [hanaperref11_Bits.l2]; rfl) ?_
  refine neg (by omega) (pos (by omega) ?_)
  have e : (2 * (2 * (2 * (2 * (2 * (2 * (2 * (2 * 0 + bv b0 1) + bv b1 1) + bv b2 1) + bv b3 1) + bv b4 1) + bv b5 1) + bv b6 1) + bv b7 1) % 256 = byteAt (mem l) j := by
    unfold byteAt
    rw [← h1, ← h2, ← h3, ← h4, ← h5, ← h6, ← h7]
    rw [Nat.add_zero] at h0
    rw [← h0]
    clear h0 h1 h2 h3 h4 h5 h6 h7 st h
    have bb : ∀ b v, bv b v = v * bv b 1 := by intro b v; cases b <;> simp [bv]
    rw [bb b0 128, bb b1 64, bb b2 32, bb b3 16, bb b4 8, bb b5 4, bb b6 2]
    omega
  rw [e, w64 (by omega) (by omega)]
  have e2 : ((8 * j : Nat) : Int) + 8 = ((8 * (j + 1) : Nat) : Int) := by omega
  rw [e2]
  exact h
theorem bits_doc_outer (l : List Int) (n : Int) (hn0 : 0 ≤ n) (hn : n ≤ 4096) (hlen : l.length ≤ 4611686018427387904) : ∀ (d j : Nat), j + d = (n.toNat + 7) / 8 →
    Ev (fun k => hanaperref11_Bits.l1 k l n (bitsOf (mem l) j) ((8 * j : Nat) : Int)) (bitsOf (mem l) ((n.toNat + 7) / 8), true) := by
  intro d
  induction d with
  | zero =>
    intro j hj
    refine Ev.step (fun k => by simp only [hanaperref11_Bits.l1]; rfl) ?_
    refine neg (by omega) (now ?_)
    rw [← hj]; rfl
  | succ d ih =>
    intro j hj
    refine Ev.step (fun k => by simp only [hanaperref11_Bits.l1]; rfl) ?_
    refine pos (by omega) ?_
    refine bits_doc_inner l n hn hlen _ j (by omega) (by rw [bitsOf_length]; omega) _ ?_
    have e : bitsOf (mem l) j ++ [byteAt (mem l) j] = bitsOf (mem l) (j + 1) := by simp [bitsOf, List.range_succ]
    rw [e]
    exact ih (j + 1) (by omega)
theorem bits_doc_check (l : List Int) (n : Int) (hn0 : 0 ≤ n) (hn : n ≤ 4096) (hlen : l.length ≤ 4611686018427387904) : ∀ (d i : Nat) (last : Int), i + d = l.length → ((i = 0 ∧ last = -1) ∨ (0 ≤ last ∧ ∃ h : i - 1 < l.length, 0 < i ∧ l[i - 1] = last)) →
    Ev (fun k => hanaperref11_Bits.l0 k l n i) (cond (incr n last (l.drop i)) (bitsOf (mem l) ((n.toNat + 7) / 8), true) ([], false)) := by
  intro d
  induction d with
  | zero =>
    intro i last hi hlast
    refine Ev.step (fun k => by simp only [hanaperref11_Bits.l0]; rfl) ?_
    refine neg (by omega) ?_
    rw [List.drop_of_length_le (by omega)]
    exact bits_doc_outer l n hn0 hn hlen ((n.toNat + 7) / 8) 0 (by omega)
  | succ d ih =>
    intro i last hi hlast
    have hil : i < l.length := by omega
    refine Ev.step (fun k => by simp only [hanaperref11_Bits.l0]; rfl) ?_
    refine pos (by omega) (pos (by omega) ?_)
    rw [rd_nat l i hil, drop_cons l i hil, inc hil hlen]
    simp only [incr]
    generalize hx : l[i] = x
    by_cases h0 : x < 0
    · refine pos h0 (now ?_)
      rw [decide_eq_false (show ¬ last < x by omega)]; rfl
    refine neg h0 ?_
    by_cases h2 : x ≥ n
    · refine pos h2 (now ?_)
      rw [decide_eq_false (show ¬ x < n by omega)]; simp
    refine neg h2 ?_
    rw [decide_eq_true (show x < n by omega)]
    rcases hlast with ⟨rfl, rfl⟩ | ⟨hl0, h, h3, h4⟩
    · refine neg (by omega) ?_
      rw [decide_eq_true (show -1 < x by omega), Bool.true_and, Bool.true_and]
      exact ih 1 x (by omega) (.inr ⟨by omega, by omega, by omega, by simpa using hx⟩)
    · have e : wrap64 ((i : Int) - 1) = ((i - 1 : Nat) : Int) := by rw [w64 (by omega) (by omega)]; omega
      rw [e, rd_nat l (i - 1) h, h4]
      refine pos (by omega) (pos (by omega) (pos (by omega) ?_))
      by_cases h1 : x ≤ last
      · refine pos h1 (now ?_)
        rw [decide_eq_false (by omega)]; rfl
      · refine neg h1 ?_
        rw [decide_eq_true (show last < x by omega), Bool.true_and, Bool.true_and]
        exact ih (i + 1) x (by omega) (.inr ⟨by omega, by omega, by omega, by simpa using hx⟩)
theorem bits_doc_ev (l : List Int) (n : Int) (hlen : l.length ≤ 4611686018427387904) : Ev (fun k => hanaperref11_Bits.f k l n) (bitsSpec l n) := by
  unfold hanaperref11_Bits.f bitsSpec
  have bad : Ev (fun k => hanaperref11_Bits.j0 k l n true) ([], false) := by
    refine Ev.step (fun k => by simp only [hanaperref11_Bits.j0]; rfl) ?_
    exact pos (by simp) (now rfl)
  by_cases h : n < 0
  · refine pos h ?_
    rw [if_neg (by omega)]; exact bad
  refine neg h ?_
  by_cases h2 : n > 4096
  · rw [decide_eq_true h2, if_neg (by omega)]; exact bad
  · rw [decide_eq_false h2]
    refine Ev.step (fun k => by simp only [hanaperref11_Bits.j0]; rfl) ?_
    refine neg (by simp) ?_
    have := bits_doc_check l n (by omega) (by omega) hlen l.length 0 (-1) (by omega) (.inl ⟨rfl, rfl⟩)
    rw [List.drop_zero] at this
    rw [if_pos (by omega)]
    exact this

/-! ### bits as numbers -/
def listSpec (b : List Int) (n : Int) : List Int × Bool :=
  if 0 ≤ n ∧ n ≤ 4096 ∧ b.length = (n.toNat + 7) / 8 then cond (outOf n (listFrom b 0)) ([], false) (listFrom b 0, true) else ([], false)

theorem listFrom_mem (b : List Int) (i : Nat) : ∀ x ∈ listFrom b i, (i : Int) ≤ x ∧ x < 8 * b.length := by
  intro x hx
  simp only [listFrom, List.mem_map, List.mem_filter] at hx
  obtain ⟨j, ⟨hj, _⟩, rfl⟩ := hx
  rw [List.mem_drop_iff_getElem] at hj
  obtain ⟨m, hm, rfl⟩ := hj
  simp at hm ⊢
  omega
theorem getD_u8 {b : List Int} (hb : U8 b) (j : Nat) : 0 ≤ b.getD j 0 ∧ b.getD j 0 ≤ 255 := by
  rw [List.getD_eq_getElem?_getD]
  by_cases h : j < b.length
  · rw [List.getElem?_eq_getElem h]; exact hb _ (List.getElem_mem h)
  · rw [List.getElem?_eq_none (by omega)]; simp
theorem and_bit {b : List Int} (hb : U8 b) (i : Nat) : (Go.bits .and .u8 (b.getD (i / 8) 0) (shr .u8 128 ((i % 8 : Nat) : Int)) = 0) ↔ bitAt b i = false := by
  have hr := getD_u8 hb (i / 8)
  have t := and_tab ⟨(b.getD (i / 8) 0).toNat, by omega⟩ ⟨i % 8, Nat.mod_lt _ (by decide)⟩
  dsimp only at t
  rw [show (((b.getD (i / 8) 0).toNat : Nat) : Int) = b.getD (i / 8) 0 from by omega] at t
  unfold bitAt
  by_cases hx : Go.bits .and .u8 (b.getD (i / 8) 0) (shr .u8 128 ((i % 8 : Nat) : Int)) = 0
  · rw [decide_eq_true hx] at t
    exact ⟨fun _ => by revert t; cases decide (b.getD (i / 8) 0 / 2 ^ (7 - i % 8) % 2 = 1) <;> simp, fun _ => hx⟩
  · rw [decide_eq_false hx] at t
    exact ⟨fun h => absurd h hx, fun h => by rw [h] at t; simp at t⟩
theorem byte_i {i : Nat} (h : i ≤ 9000000) : wrap64 (Int.tdiv (i : Int) 8) = ((i / 8 : Nat) : Int) := by
  rw [Int.tdiv_eq_ediv_of_nonneg (by omega), w64 (by omega) (by omega)]; omega
theorem bit_i (i : Nat) : Int.tmod (i : Int) 8 = ((i % 8 : Nat) : Int) := by rw [Int.tmod_eq_emod_of_nonneg (by omega)]; omega
theorem outOf_append (n : Int) (p q : List Int) : outOf n (p ++ q) = (outOf n p || outOf n q) := by simp [outOf]

/-- What rises: one of all is at least n if and only if the last one is. -/
theorem out_last (n : Int) : ∀ (b : List Int), (h : listFrom b 0 ≠ []) → outOf n (listFrom b 0) = decide (n ≤ (listFrom b 0).getLast h) := by
  intro b h
  have hp : (listFrom b 0).Pairwise (· < ·) := by
    unfold listFrom
    rw [List.pairwise_map]
    refine List.Pairwise.imp (R := fun a b => a < b) (fun h => by omega) ?_
    exact List.Pairwise.filter _ (List.Pairwise.drop List.pairwise_lt_range)
  generalize listFrom b 0 = l at h hp
  unfold outOf
  rw [Bool.eq_iff_iff, List.any_eq_true, decide_eq_true_eq]
  constructor
  · rintro ⟨x, hx, hn⟩
    have hn := of_decide_eq_true hn
    rcases List.mem_iff_getElem.1 hx with ⟨j, hj, rfl⟩
    rw [List.getLast_eq_getElem]
    by_cases e : j = l.length - 1
    · subst e; exact hn
    · have := List.pairwise_iff_getElem.1 hp j (l.length - 1) hj (by omega) (by omega); omega
  · intro hn
    exact ⟨_, List.getLast_mem h, decide_eq_true hn⟩

theorem list_loop (b : List Int) (n : Int) (hb : U8 b) (hlen : b.length ≤ 1000000) : ∀ (d i : Nat) (p : List Int), i + d = 8 * b.length → p ++ listFrom b i = listFrom b 0 → p.length ≤ i →
    Ev (fun k => alloc_List.l0 k b n p ((8 * b.length : Nat) : Int) i) (cond (outOf n (listFrom b 0)) ([], false) (listFrom b 0, true)) := by
  intro d
  induction d with
  | zero =>
    intro i p hi hp hl
    refine Ev.step (fun k => by simp only [alloc_List.l0]; rfl) ?_
    rw [listFrom_end b i (by omega), List.append_nil] at hp
    refine neg (by omega) ?_
    by_cases h0 : p.length = 0
    · refine neg (by omega) (now ?_)
      have : p = [] := List.length_eq_zero_iff.1 h0
      rw [← hp, this]; rfl
    · have e : wrap64 ((p.length : Int) - 1) = ((p.length - 1 : Nat) : Int) := by rw [w64 (by omega) (by omega)]; omega
      rw [e, rd_nat p _ (by omega)]
      refine pos (by omega) (pos (by omega) (pos (by omega) ?_))
      have hne : listFrom b 0 ≠ [] := by rw [← hp]; intro e; rw [e] at h0; exact h0 rfl
      rw [out_last n b hne]
      have hg : (listFrom b 0).getLast hne = p[p.length - 1]'(by omega) := by
        rw [List.getLast_eq_getElem]; simp only [← hp]
      rw [hg]
      by_cases hn : p[p.length - 1]'(by omega) ≥ n
      · refine pos hn (now ?_)
        rw [decide_eq_true (show n ≤ _ from hn)]; rfl
      · refine neg hn (now ?_)
        rw [decide_eq_false (show ¬ n ≤ _ from hn), ← hp]; rfl
  | succ d ih =>
    intro i p hi hp hl
    refine Ev.step (fun k => by simp only [alloc_List.l0]; rfl) ?_
    rw [byte_i (by omega), bit_i]
    refine pos (by omega) (pos (by omega) (pos (by omega) (pos (by omega) ?_)))
    have e : rd b ((i / 8 : Nat) : Int) = b.getD (i / 8) 0 := by unfold rd; rw [Int.toNat_natCast]
    rw [e, w64 (x := (i : Int) + 1) (by omega) (by omega)]
    rw [listFrom_step b i (by omega)] at hp
    by_cases hbit : bitAt b i = true
    · refine neg (fun h => by rw [(and_bit hb i).1 h] at hbit; cases hbit) (pos (by omega) ?_)
      rw [if_pos hbit] at hp
      exact ih (i + 1) (p ++ [(i : Int)]) (by omega) (by rw [← hp]; simp) (by simp; omega)
    · refine pos ((and_bit hb i).2 (by simpa using hbit)) ?_
      rw [if_neg hbit] at hp
      exact ih (i + 1) p (by omega) hp (by omega)
theorem list_ev (b : List Int) (n : Int) (hb : U8 b) (hlen : b.length ≤ 1000000) : Ev (fun k => alloc_List.f k b n) (listSpec b n) := by
  unfold alloc_List.f listSpec
  have bad : Ev (fun k => alloc_List.j0 k b n true) ([], false) := by
    refine Ev.step (fun k => by simp only [alloc_List.j0]; rfl) ?_
    exact pos (by simp) (now rfl)
  refine bindSome (right_eq n) ?_
  by_cases h : 0 ≤ n ∧ n ≤ 4096
  · refine pos (by simpa using h) ?_
    refine bindSome (bytesOf_eq n h.1 h.2) ?_
    by_cases h2 : b.length = (n.toNat + 7) / 8
    · rw [if_pos ⟨h.1, h.2, h2⟩]
      have e : ((b.length : Int) != (((n.toNat + 7) / 8 : Nat) : Int)) = false := by rw [bne_eq_false_iff_eq]; omega
      rw [e]
      refine Ev.step (fun k => by simp only [alloc_List.j0]; rfl) ?_
      refine neg (by simp) ?_
      have e2 : wrap64 (8 * (b.length : Int)) = ((8 * b.length : Nat) : Int) := by rw [w64 (by omega) (by omega)]; omega
      rw [e2]
      exact list_loop b n hb hlen (8 * b.length) 0 [] (by omega) rfl (by simp)
    · rw [if_neg (by omega)]
      have e : ((b.length : Int) != (((n.toNat + 7) / 8 : Nat) : Int)) = true := by rw [bne_iff_ne]; omega
      rw [e]
      exact bad
  · refine neg (by simpa using h) ?_
    rw [if_neg (by omega)]
    exact bad

theorem list_doc_inner (b : List Int) (n : Int) (p : List Int) (i : Nat) (r : List Int × Bool) : ∀ (d : Nat) (t : Nat) (c : Int), t = i % 8 + d → t ≤ 7 → 0 ≤ c → c ≤ 255 →
    Ev (fun k => if Int.tmod (c / 2 ^ d) 2 = 1 then (if (i : Int) ≥ n then (some (([] : List Int), false)) else (if p.length < 17592186044416 then (hanaperref11_List.l0 k b n (p ++ [(i : Int)]) (wrap64 ((i : Int) + 1))) else (none))) else (hanaperref11_List.l0 k b n p (wrap64 ((i : Int) + 1)))) r →
    Ev (fun k => hanaperref11_List.l1 k b n p i c t) r := by
  intro d
  induction d with
  | zero =>
    intro t c ht ht7 h0 h1 h
    refine Ev.step (fun k => by simp only [hanaperref11_List.l1]; rfl) ?_
    rw [bit_i]
    refine neg (by omega) ?_
    simpa using h
  | succ d ih =>
    intro t c ht ht7 h0 h1 h
    refine Ev.step (fun k => by simp only [hanaperref11_List.l1]; rfl) ?_
    rw [bit_i]
    refine pos (by omega) ?_
    have e : wrap64 ((t : Int) - 1) = ((t - 1 : Nat) : Int) := by rw [w64 (by omega) (by omega)]; omega
    rw [e, Int.tdiv_eq_ediv_of_nonneg (by omega), w64 (x := c / 2) (by omega) (by omega)]
    refine ih (t - 1) (c / 2) (by omega) (by omega) (by omega) (by omega) ?_
    have e2 : c / 2 / 2 ^ d = c / 2 ^ (d + 1) := by
      rw [Int.ediv_ediv_of_nonneg (by omega), Int.pow_succ, Int.mul_comm]
    rw [e2]
    exact h
theorem list_doc_loop (b : List Int) (n : Int) (hb : U8 b) (hlen : b.length ≤ 1000000) : ∀ (d i : Nat) (p : List Int), i + d = 8 * b.length → p ++ listFrom b i = listFrom b 0 → p.length ≤ i → outOf n p = false →
    Ev (fun k => hanaperref11_List.l0 k b n p i) (cond (outOf n (listFrom b 0)) ([], false) (listFrom b 0, true)) := by
  intro d
  induction d with
  | zero =>
    intro i p hi hp hl ho
    refine Ev.step (fun k => by simp only [hanaperref11_List.l0]; rfl) ?_
    rw [w64 (x := 8 * (b.length : Int)) (by omega) (by omega)]
    rw [listFrom_end b i (by omega), List.append_nil] at hp
    refine neg (by omega) (now ?_)
    rw [← hp, ho]; rfl
  | succ d ih =>
    intro i p hi hp hl ho
    refine Ev.step (fun k => by simp only [hanaperref11_List.l0]; rfl) ?_
    rw [byte_i (by omega), w64 (x := 8 * (b.length : Int)) (by omega) (by omega)]
    refine pos (by omega) (pos (by omega) (pos (by omega) ?_))
    have e : rd b ((i / 8 : Nat) : Int) = b.getD (i / 8) 0 := by unfold rd; rw [Int.toNat_natCast]
    have hr := getD_u8 hb (i / 8)
    rw [e, w64 (by omega) (by omega)]
    refine list_doc_inner b n p i _ (7 - i % 8) 7 _ (by omega) (by omega) hr.1 hr.2 ?_
    rw [w64 (x := (i : Int) + 1) (by omega) (by omega)]
    have hnn : 0 ≤ b.getD (i / 8) 0 / 2 ^ (7 - i % 8) := Int.ediv_nonneg hr.1 (Int.pow_nonneg (by decide))
    rw [Int.tmod_eq_emod_of_nonneg hnn]
    rw [listFrom_step b i (by omega)] at hp
    by_cases hbit : bitAt b i = true
    · rw [if_pos hbit] at hp
      refine pos (of_decide_eq_true hbit) ?_
      by_cases hn : (i : Int) ≥ n
      · refine pos hn (now ?_)
        rw [← hp, outOf_append]
        have : outOf n ((i : Int) :: listFrom b (i + 1)) = true := by simp [outOf, show n ≤ (i : Int) from hn]
        rw [this, Bool.or_true]; rfl
      · refine neg hn (pos (by omega) ?_)
        refine ih (i + 1) (p ++ [(i : Int)]) (by omega) (by rw [← hp]; simp) (by simp; omega) ?_
        rw [outOf_append, ho]
        simp [outOf, show (i : Int) < n by omega]
    · rw [if_neg hbit] at hp
      refine neg (fun h => hbit (decide_eq_true h)) ?_
      exact ih (i + 1) p (by omega) hp (by omega) ho
theorem list_doc_ev (b : List Int) (n : Int) (hb : U8 b) (hlen : b.length ≤ 1000000) : Ev (fun k => hanaperref11_List.f k b n) (listSpec b n) := by
  unfold hanaperref11_List.f listSpec
  have bad : Ev (fun k => hanaperref11_List.j0 k b n true) ([], false) := by
    refine Ev.step (fun k => by simp only [hanaperref11_List.j0]; rfl) ?_
    exact pos (by simp) (now rfl)
  by_cases h0 : n < 0
  · refine pos h0 ?_
    rw [if_neg (by omega)]; exact bad
  refine neg h0 ?_
  by_cases h1 : n > 4096
  · refine pos h1 ?_
    rw [if_neg (by omega)]; exact bad
  refine neg h1 ?_
  have e0 : wrap64 (Int.tdiv (wrap64 (n + 7)) 8) = (((n.toNat + 7) / 8 : Nat) : Int) := by
    rw [w64 (x := n + 7) (by omega) (by omega), Int.tdiv_eq_ediv_of_nonneg (by omega), w64 (by omega) (by omega)]; omega
  rw [e0]
  by_cases h2 : b.length = (n.toNat + 7) / 8
  · rw [if_pos ⟨by omega, by omega, h2⟩]
    have e : ((b.length : Int) != (((n.toNat + 7) / 8 : Nat) : Int)) = false := by rw [bne_eq_false_iff_eq]; omega
    rw [e]
    refine Ev.step (fun k => by simp only [hanaperref11_List.j0]; rfl) ?_
    refine neg (by simp) ?_
    exact list_doc_loop b n hb hlen (8 * b.length) 0 [] (by omega) rfl (by simp) rfl
  · rw [if_neg (by omega)]
    have e : ((b.length : Int) != (((n.toNat + 7) / 8 : Nat) : Int)) = true := by rw [bne_iff_ne]; omega
    rw [e]
    exact bad
theorem listSpec_len (b : List Int) (n : Int) : (listSpec b n).1.length ≤ 8 * b.length := by
  unfold listSpec
  split
  · cases outOf n (listFrom b 0)
    · simp only [cond_false]
      unfold listFrom
      rw [List.length_map]
      refine Nat.le_trans (List.length_filter_le _ _) ?_
      simp
    · simp
  · simp
theorem bitsSpec_len (l : List Int) (n : Int) : (bitsSpec l n).1.length ≤ 513 := by
  unfold bitsSpec
  split
  · cases incr n (-1) l
    · simp
    · simp only [cond_true]; rw [bitsOf_length]; omega
  · simp
end Go.Proofs.Ytgdpabedlghiaaa.AllocEv
/- What the lowest functions come to: numbers and texts as bytes, lists that are the same. -/
namespace Go.Proofs.Ytgdpabedlghiaaa.Lo
open Go.Proofs.Ytgdpabedlghiaaa.Base Go.Proofs.Ytgdpabedlghiaaa.TlvPlain Go.Proofs.Ytgdpabedlghiaaa.Aid Go.RowKit Go.Proofs.YtgdpabedlghiaaaW.PrintWords Go.Proofs.YtgdpabedlghiaaaW.PrintLast Go.Proofs.YtgdpabedlghiaaaW.PrintMore Go.Proofs.Ytgdpabedlghiaaa.PZ

/-- A number's bytes, the highest first. -/
def be (n : Nat) : List Int := if n = 0 then [] else be (n / 256) ++ [((n % 256 : Nat) : Int)]
termination_by n
decreasing_by omega
def numB (n : Int) : List Int := ((be n.toNat).length : Int) :: be n.toNat
def textB (l : List Int) : List Int := numB l.length ++ l
def intB (n : Int) : List Int := numB (IntKind.u64.wrap n)
theorem be_zero : be 0 = [] := by unfold be; rfl
theorem be_pos {n : Nat} (h : 0 < n) : be n = be (n / 256) ++ [((n % 256 : Nat) : Int)] := by
  rw [be, if_neg (by omega)]
theorem be_len {k : Nat} : ∀ {n : Nat}, n < 256 ^ k → (be n).length ≤ k := by
  induction k with
  | zero => intro n h; have : n = 0 := by omega
            subst this; rw [be_zero]; simp
  | succ k ih =>
    intro n h
    by_cases h0 : n = 0
    · subst h0; rw [be_zero]; simp
    · rw [be_pos (by omega), List.length_append, List.length_singleton]
      have := ih (n := n / 256) (by rw [Nat.pow_succ] at h; omega)
      omega
theorem be_u8 (n : Nat) : U8 (be n) := by
  induction n using Nat.strongRecOn with
  | ind n ih =>
    by_cases h0 : n = 0
    · subst h0; rw [be_zero]; exact U8.nil
    · rw [be_pos (by omega)]
      refine (ih (n / 256) (by omega)).append (U8.cons ?_ U8.nil)
      omega
theorem be_value (n : Nat) : valueB (be n) = n := by
  induction n using Nat.strongRecOn with
  | ind n ih =>
    by_cases h0 : n = 0
    · subst h0; rw [be_zero]; rfl
    · rw [be_pos (by omega), valueB_snoc, ih (n / 256) (by omega)]
      omega
theorem be_head (n : Nat) (h : 0 < n) : ∃ x xs, be n = x :: xs ∧ 0 < x := by
  induction n using Nat.strongRecOn with
  | ind n ih =>
    rw [be_pos h]
    by_cases h0 : n / 256 = 0
    · rw [h0, be_zero]
      exact ⟨_, [], rfl, by omega⟩
    · obtain ⟨x, xs, e, hx⟩ := ih (n / 256) (by omega) (by omega)
      rw [e]
      exact ⟨x, xs ++ [_], rfl, hx⟩
theorem be_len8 {n : Int} (h1 : n ≤ 18446744073709551615) : (be n.toNat).length ≤ 8 := be_len (by
  have : (256 : Nat) ^ 8 = 18446744073709551616 := by decide +kernel
  omega)
theorem numB_len {n : Int} (h1 : n ≤ 18446744073709551615) : (numB n).length ≤ 9 := by
  unfold numB; rw [List.length_cons]; have := be_len8 h1; omega
theorem numB_u8 {n : Int} (h1 : n ≤ 18446744073709551615) : U8 (numB n) := by
  unfold numB
  have := be_len8 h1
  exact U8.cons (by omega) (be_u8 _)
theorem u64_range (n : Int) : 0 ≤ IntKind.u64.wrap n ∧ IntKind.u64.wrap n ≤ 18446744073709551615 := by
  have : IntKind.u64.wrap n = n % 18446744073709551616 := by
    simp [IntKind.wrap, IntKind.signed, IntKind.bits]
  rw [this]; omega

/-! ### Num, as the program has it -/
theorem num_fill (w : Int) : ∀ (i m : Nat) (t : List Int), (be m).length = i → m ≤ 18446744073709551615 → i ≤ 8 →
    Ev (fun k => tlv_Num.l1 k (m : Int) (w :: (List.replicate i 0 ++ t)) (i : Int)) (w :: (be m ++ t)) := by
  intro i
  induction i with
  | zero =>
    intro m t hi hm h8
    refine Ev.step (fun k => by simp only [tlv_Num.l1]; rfl) ?_
    refine neg (by omega) (now ?_)
    have : be m = [] := List.length_eq_zero_iff.1 hi
    rw [this]; rfl
  | succ i ih =>
    intro m t hi hm h8
    have hm0 : 0 < m := by
      rcases Nat.eq_zero_or_pos m with h | h
      · subst h; rw [be_zero] at hi; cases hi
      · exact h
    have hb := be_pos hm0
    refine Ev.step (fun k => by simp only [tlv_Num.l1]; rfl) ?_
    refine pos (by omega) (pos (by omega) (pos (by simp; omega) ?_))
    have e1 : wrap64 (((i + 1 : Nat) : Int) - 1) = (i : Int) := by rw [w64 (by omega) (by omega)]; omega
    have e2 : ((m : Int) % 256) = ((m % 256 : Nat) : Int) := by omega
    have e3 : ((m : Int) / 256) = ((m / 256 : Nat) : Int) := by omega
    have e4 : (w :: (List.replicate (i + 1) 0 ++ t)).set (((i + 1 : Nat) : Int)).toNat ((m : Int) % 256) = w :: (List.replicate i 0 ++ (((m % 256 : Nat) : Int) :: t)) := by
      rw [Int.toNat_natCast, List.set_cons_succ, e2, List.replicate_succ']
      congr 1
      rw [List.append_assoc, List.set_append_right _ _ (by simp)]
      simp
    rw [e1, e3, e4]
    have := ih (m / 256) (((m % 256 : Nat) : Int) :: t) (by rw [hb] at hi; simpa using hi) (by omega) (by omega)
    rw [hb, List.append_assoc]
    exact this
theorem num_count (n : Int) (hn0 : 0 ≤ n) (hn1 : n ≤ 18446744073709551615) : ∀ (m c : Nat), c + (be m).length = (be n.toNat).length → m ≤ 18446744073709551615 →
    Ev (fun k => tlv_Num.l0 k n (c : Int) (m : Int)) (numB n) := by
  intro m
  induction m using Nat.strongRecOn with
  | ind m ih =>
    intro c hc hm
    have h8 := be_len8 hn1
    refine Ev.step (fun k => by simp only [tlv_Num.l0]; rfl) ?_
    by_cases h0 : m = 0
    · subst h0
      rw [be_zero] at hc
      simp only [List.length_nil, Nat.add_zero] at hc
      have e1 : wrap64 (1 + (c : Int)) = ((c + 1 : Nat) : Int) := by rw [w64 (by omega) (by omega)]; omega
      rw [e1, Int.toNat_natCast]
      refine neg (by omega) (pos (by omega) (pos (by omega) ?_))
      refine bindSome rfl (pos (by simp) ?_)
      have e2 : (List.replicate (c + 1) (0 : Int)).set ((0 : Int)).toNat ((c : Int) % 256) = (c : Int) :: (List.replicate c 0 ++ []) := by
        rw [List.replicate_succ, show ((0 : Int)).toNat = 0 from rfl, List.set_cons_zero, List.append_nil, Int.emod_eq_of_lt (by omega) (by omega)]
      rw [e2]
      obtain ⟨q, rfl⟩ := Int.eq_ofNat_of_zero_le hn0
      have := num_fill (c : Int) c q [] (by rw [hc]; rfl) (by omega) (by omega)
      unfold numB
      rw [Int.toNat_natCast] at hc ⊢
      rw [← hc]
      simpa using this
    · refine pos (by omega) ?_
      have hb := be_pos (show 0 < m by omega)
      rw [hb, List.length_append, List.length_singleton] at hc
      have e1 : wrap64 ((c : Int) + 1) = ((c + 1 : Nat) : Int) := by rw [w64 (by omega) (by omega)]; omega
      have e3 : ((m : Int) / 256) = ((m / 256 : Nat) : Int) := by omega
      rw [e1, e3]
      exact ih (m / 256) (by omega) (c + 1) (by omega) (by omega)
theorem num_ev (n : Int) (hn0 : 0 ≤ n) (hn1 : n ≤ 18446744073709551615) : Ev (fun k => tlv_Num.f k n) (numB n) := by
  have := num_count n hn0 hn1 n.toNat 0 (by omega) (by omega)
  rw [show ((n.toNat : Nat) : Int) = n from by omega] at this
  exact this
/-! ### Num, as the document has it -/
theorem rnum_loop : ∀ (m : Nat) (t : List Int), m ≤ 18446744073709551615 → (be m).length + t.length ≤ 8 →
    Ev (fun k => hanaperref01_Num.l0 k (m : Int) t) ((((be m ++ t).length : Nat) : Int) :: (be m ++ t)) := by
  intro m
  induction m using Nat.strongRecOn with
  | ind m ih =>
    intro t hm ht
    refine Ev.step (fun k => by simp only [hanaperref01_Num.l0]; rfl) ?_
    by_cases h0 : m = 0
    · subst h0
      refine neg (by omega) (bindSome rfl (pos (by simp; omega) (now ?_)))
      rw [be_zero] at ht ⊢
      simp only [List.length_nil] at ht
      rw [Int.emod_eq_of_lt (by omega) (by omega)]; rfl
    · refine pos (by omega) (bindSome rfl (pos (by simp; omega) ?_))
      have hb := be_pos (show 0 < m by omega)
      rw [hb, List.length_append, List.length_singleton] at ht
      have e1 : IntKind.u64.wrap (Int.tdiv (m : Int) 256) = ((m / 256 : Nat) : Int) := by
        rw [Int.tdiv_eq_ediv_of_nonneg (by omega), u64 (by omega) (by omega)]; omega
      have e2 : (Int.tmod (m : Int) 256) % 256 = ((m % 256 : Nat) : Int) := by
        rw [Int.tmod_eq_emod_of_nonneg (by omega)]; omega
      rw [e1, e2, hb, List.append_assoc]
      exact ih (m / 256) (by omega) _ (by omega) (by simp; omega)
theorem rnum_ev (n : Int) (hn0 : 0 ≤ n) (hn1 : n ≤ 18446744073709551615) : Ev (fun k => hanaperref01_Num.f k n) (numB n) := by
  have := rnum_loop n.toNat [] (by omega) (by have := be_len8 hn1; simpa using this)
  rw [show ((n.toNat : Nat) : Int) = n from by omega, List.append_nil] at this
  exact this
/-! ### texts and ints -/
theorem len_u64 (l : List Int) (h : l.length < 140737488355000) : IntKind.u64.wrap ((l.length : Nat) : Int) = l.length := u64 (by omega) (by omega)
theorem text_ev (l : List Int) (h : l.length < 140737488355000) : Ev (fun k => tlv_Text.f k l) (textB l) := by
  unfold tlv_Text.f
  rw [len_u64 l h]
  refine evBind (num_ev _ (by omega) (by omega)) (pos ?_ (now rfl))
  have := numB_len (n := (l.length : Int)) (by omega)
  omega
theorem rtext_ev (l : List Int) (h : l.length < 140737488355000) : Ev (fun k => hanaperref01_Text.f k l) (textB l) := by
  unfold hanaperref01_Text.f
  rw [len_u64 l h]
  refine evBind (rnum_ev _ (by omega) (by omega)) (pos ?_ (now rfl))
  have := numB_len (n := (l.length : Int)) (by omega)
  omega
theorem int_ev (n : Int) : Ev (fun k => tlv_Int.f k n) (intB n) := by
  unfold tlv_Int.f
  exact evBind (num_ev _ (u64_range n).1 (u64_range n).2) (now rfl)
theorem rint_ev (n : Int) : Ev (fun k => hanaperref01_Int.f k n) (intB n) := by
  unfold hanaperref01_Int.f
  exact evBind (rnum_ev _ (u64_range n).1 (u64_range n).2) (now rfl)
theorem all_loop (l : List (List Int)) (hl : l.length ≤ 4611686018427387904) (ht : l.flatten.length < 140737488355328) : ∀ (d i : Nat), i + d = l.length →
    Ev (fun k => tlv_All.l0 k (l.take i).flatten l (l.length : Int) (i : Int)) l.flatten := by
  intro d
  induction d with
  | zero =>
    intro i hi
    refine Ev.step (fun k => by simp only [tlv_All.l0]; rfl) ?_
    refine neg (by omega) (now ?_)
    rw [List.take_of_length_le (by omega)]
  | succ d ih =>
    intro i hi
    have hil : i < l.length := by omega
    refine Ev.step (fun k => by simp only [tlv_All.l0]; rfl) ?_
    have e : rd_L2 l (i : Int) = l[i] := by simp [rd_L2, List.getD_eq_getElem?_getD, List.getElem?_eq_getElem hil]
    have e2 : (l.take i).flatten ++ l[i] = (l.take (i + 1)).flatten := by rw [take_snoc l i hil, List.flatten_append]; simp
    rw [e, inc hil hl, e2]
    refine pos (by omega) (pos (by omega) (pos (by omega) (pos ?_ (ih (i + 1) (by omega)))))
    have h1 : (l.take i).flatten.length + l[i].length = (l.take (i + 1)).flatten.length := by rw [← e2, List.length_append]
    have h2 : l.flatten = (l.take (i + 1)).flatten ++ (l.drop (i + 1)).flatten := by rw [← List.flatten_append, List.take_append_drop]
    rw [h2, List.length_append] at ht
    omega
theorem all_ev (l : List (List Int)) (hl : l.length ≤ 4611686018427387904) (ht : l.flatten.length < 140737488355328) : Ev (fun k => tlv_All.f k l) l.flatten := by
  have := all_loop l hl ht l.length 0 (by omega)
  exact this
/-! ### lists that are the same -/
theorem same_from (a b : List Int) (hl : a.length = b.length) (hn : a.length ≤ 4611686018427387904) : ∀ (d i : Nat), i + d = a.length →
    Ev (fun k => hanaperref01_Same.l0 k a b i) (decide (a.drop i = b.drop i)) := by
  intro d
  induction d with
  | zero =>
    intro i hi
    refine Ev.step (fun k => by simp only [hanaperref01_Same.l0]; rfl) ?_
    refine neg (by omega) (now ?_)
    rw [List.drop_of_length_le (by omega), List.drop_of_length_le (by omega)]; simp
  | succ d ih =>
    intro i hi
    refine Ev.step (fun k => by simp only [hanaperref01_Same.l0]; rfl) ?_
    refine pos (by omega) (pos (by omega) (pos (by omega) ?_))
    rw [rd_nat a i (by omega), rd_nat b i (by omega), drop_cons a i (by omega), drop_cons b i (by omega), inc (show i < a.length by omega) hn]
    by_cases e : a[i]'(by omega) = b[i]'(by omega)
    · refine pos e ?_
      have := ih (i + 1) (by omega)
      generalize a.drop (i + 1) = A at this ⊢
      generalize b.drop (i + 1) = B at this ⊢
      simpa [e] using this
    · refine neg e (now ?_)
      generalize a.drop (i + 1) = A
      generalize b.drop (i + 1) = B
      simp [e]
theorem same_ev (a b : List Int) (hn : a.length ≤ 4611686018427387904) : Ev (fun k => hanaperref01_Same.f k a b) (decide (a = b)) := by
  unfold hanaperref01_Same.f
  by_cases e : a.length = b.length
  · refine pos (by omega) ?_
    simpa using same_from a b e hn a.length 0 (by omega)
  · refine neg (by omega) (now ?_)
    have : a ≠ b := fun h => e (by rw [h])
    simp [this]
theorem copy_ev (l : List Int) (h : l.length < 140737488355328) : hanaperref01_Copy.f l = some l := by
  unfold hanaperref01_Copy.f
  simp only [Option.bind_some]
  rw [if_pos (by simpa using h)]; rfl
theorem value_loop (l : List Int) (hu : U8 l) (h8 : l.length ≤ 8) : ∀ (d i : Nat), i + d = l.length →
    Ev (fun k => hanaperref01_Value.l0 k l (valueB (l.take i)) (i : Int)) (valueB l) := by
  intro d
  induction d with
  | zero =>
    intro i hi
    refine Ev.step (fun k => by simp only [hanaperref01_Value.l0]; rfl) ?_
    refine neg (by omega) (now ?_)
    rw [List.take_of_length_le (by omega)]
  | succ d ih =>
    intro i hi
    have hil : i < l.length := by omega
    refine Ev.step (fun k => by simp only [hanaperref01_Value.l0]; rfl) ?_
    refine pos (by omega) (pos (by omega) ?_)
    have h1 := valueB_u64 (hu.take i) (by rw [List.length_take]; omega)
    have h2 := valueB_u64 (hu.take (i + 1)) (by rw [List.length_take]; omega)
    have hx := hu _ (List.getElem_mem hil)
    have e2 := h2
    rw [take_snoc l i hil, valueB_snoc] at e2
    rw [rd_nat l i hil, inc hil (by omega), u64 (x := valueB (l.take i) * 256) (by omega) (by omega), u64 (x := l[i]) (by omega) (by omega), u64 (by omega) (by omega), ← valueB_snoc, ← take_snoc l i hil]
    exact ih (i + 1) (by omega)
theorem value_ev (l : List Int) (hu : U8 l) (h8 : l.length ≤ 8) : Ev (fun k => hanaperref01_Value.f k l) (valueB l) := by
  have := value_loop l hu h8 l.length 0 (by omega)
  exact this

/-! ### what was put is read -/
theorem numO_numB (n : Int) (hn0 : 0 ≤ n) (hn1 : n ≤ 18446744073709551615) (rest : List Int) : numO (some (numB n ++ rest)) = (n, some rest) := by
  have h8 := be_len8 hn1
  unfold numB numO
  simp only [List.cons_append]
  rw [if_neg (by omega), if_neg (by rw [List.length_append]; omega), if_neg, Int.toNat_natCast]
  · rw [List.take_left', List.drop_left', be_value]
    · rw [Int.toNat_of_nonneg hn0]
    · rfl
    · rfl
  · rintro ⟨h1, h2⟩
    have : 0 < n.toNat := by
      rcases Nat.eq_zero_or_pos n.toNat with h | h
      · rw [h, be_zero] at h1; simp at h1
      · exact h
    obtain ⟨x, xs, e, hx⟩ := be_head n.toNat this
    rw [e] at h2
    simp at h2
    omega
/-- What is read as a number is just what is made of it. -/
theorem be_unique : ∀ (l : List Int), U8 l → (l = [] ∨ l.getD 0 0 ≠ 0) → be (valueB l).toNat = l := by
  have H : ∀ n (l : List Int), l.length = n → U8 l → (l = [] ∨ l.getD 0 0 ≠ 0) → be (valueB l).toNat = l := by
    intro n
    induction n with
    | zero =>
      intro l hl _ _
      have : l = [] := List.length_eq_zero_iff.1 hl
      subst this
      exact be_zero
    | succ n ih =>
      intro l hl hu hh
      have hne : l ≠ [] := by intro e; rw [e] at hl; cases hl
      have hd := List.dropLast_concat_getLast hne
      have hu1 : U8 l.dropLast := fun x hx => hu x ((List.dropLast_sublist l).subset hx)
      have hx := hu (l.getLast hne) (List.getLast_mem hne)
      have hr := valueB_range hu1
      have h0 : l.getD 0 0 ≠ 0 := hh.resolve_left hne
      have ih' := ih l.dropLast (by simp [hl]) hu1 (by
        by_cases e : l.dropLast = []
        · exact .inl e
        · right
          intro e2
          apply h0
          have := List.length_pos_iff.2 e
          rw [← hd, List.getD_eq_getElem?_getD, List.getElem?_append_left this, ← List.getD_eq_getElem?_getD]
          exact e2)
      have hpos : 0 < (valueB l).toNat := by
        rw [← hd, valueB_snoc]
        by_cases e : l.dropLast = []
        · rw [e] at hd ⊢
          rw [← hd] at h0
          have : l.getLast hne ≠ 0 := by simpa using h0
          simp only [valueB, List.foldl_nil]
          omega
        · have hv : valueB l.dropLast ≠ 0 := by
            intro e2
            rw [e2] at ih'
            rw [show (0 : Int).toNat = 0 from rfl, be_zero] at ih'
            exact e ih'.symm
          omega
      rw [be_pos hpos]
      have e1 : (valueB l).toNat / 256 = (valueB l.dropLast).toNat := by
        have : valueB l = valueB l.dropLast * 256 + l.getLast hne := by rw [← valueB_snoc, hd]
        omega
      have e2 : (((valueB l).toNat % 256 : Nat) : Int) = l.getLast hne := by
        have : valueB l = valueB l.dropLast * 256 + l.getLast hne := by rw [← valueB_snoc, hd]
        omega
      rw [e1, e2, ih', hd]
  exact fun l hu hh => H _ l rfl hu hh
theorem numO_back {b : List Int} (hu : U8 b) {m : Int} {r : List Int} (h : numO (some b) = (m, some r)) : b = numB m ++ r ∧ 0 ≤ m ∧ m ≤ 18446744073709551615 := by
  have hr := numO_range (st := some b) (fun _ e => by cases e; exact hu)
  rw [h] at hr
  refine ⟨?_, hr⟩
  cases b with
  | nil => simp [numO] at h
  | cons x t =>
    simp only [numO] at h
    have hx := hu.head
    by_cases h1 : x > 8
    · rw [if_pos h1] at h; simp at h
    rw [if_neg h1] at h
    by_cases h2 : (t.length : Int) < x
    · rw [if_pos h2] at h; simp at h
    rw [if_neg h2] at h
    by_cases h3 : 0 < x ∧ t.getD 0 0 = 0
    · rw [if_pos h3] at h; simp at h
    rw [if_neg h3] at h
    simp only [Prod.mk.injEq, Option.some.injEq] at h
    obtain ⟨rfl, rfl⟩ := h
    have hb := be_unique (t.take x.toNat) (hu.tail.take _) (by
      by_cases h0 : 0 < x
      · right
        intro e
        apply h3
        refine ⟨h0, ?_⟩
        cases t with
        | nil => simp
        | cons y t =>
          obtain ⟨q, hq⟩ : ∃ q, x.toNat = q + 1 := ⟨x.toNat - 1, by omega⟩
          rw [hq] at e
          simpa using e
      · left
        have : x.toNat = 0 := by omega
        rw [this]; rfl)
    unfold numB
    rw [hb, List.length_take, Nat.min_eq_left (by omega), List.cons_append, List.take_append_drop]
    congr 1
    omega
end Go.Proofs.Ytgdpabedlghiaaa.Lo
/- The lowest functions, each with what it answers. -/
namespace Go.Proofs.Ytgdpabedlghiaaa.Lo
open Go.Proofs.Ytgdpabedlghiaaa.Base Go.Proofs.Ytgdpabedlghiaaa.TlvPlain Go.Proofs.Ytgdpabedlghiaaa.Aid Go.RowKit Go.Proofs.YtgdpabedlghiaaaW.PrintWords Go.Proofs.YtgdpabedlghiaaaW.PrintLast Go.Proofs.YtgdpabedlghiaaaW.PrintMore Go.Proofs.Ytgdpabedlghiaaa.PZ

/-- New bytes. -/
def Makes (w : World) (bs : List Int) (e : Ending) (w' : World) : Prop := ∃ v : Value, e = .returned v ∧ Ob w' w.heap.size v bs ∧ Below w.heap.size w w'
theorem same_c (A0 : Option Addr) (c0 : Nat) (a : List Int) (A1 : Option Addr) (c1 : Nat) (b : List Int) (w : World) (h0 : Rb w A0 a) (hc0 : a.length ≤ c0) (h1 : Rb w A1 b) (hc1 : b.length ≤ c1) (hn : a.length ≤ 4611686018427387904) :
    Calls Try.prog 18 #[.slice A0 a.length c0, .slice A1 b.length c1] w fun e w' => e = .returned (.bool (decide (a = b))) ∧ Drawn0 w w' := by
  obtain ⟨k, h⟩ := (same_ev a b hn).rounds
  exact hanaperref01_Same.calls k A0 c0 a A1 c1 b _ w h0 hc0 h1 hc1 h
theorem same_n (A0 : Option Addr) (c0 n0 : Nat) (a : List Int) (A1 : Option Addr) (c1 n1 : Nat) (b : List Int) (w : World) (h0 : Rb w A0 a) (e0 : a.length = n0) (hc0 : n0 ≤ c0) (h1 : Rb w A1 b) (e1 : b.length = n1) (hc1 : n1 ≤ c1) (hn : n0 ≤ 4611686018427387904) :
    Calls Try.prog 18 #[.slice A0 n0 c0, .slice A1 n1 c1] w fun e w' => e = .returned (.bool (decide (a = b))) ∧ Drawn0 w w' := by
  subst e0; subst e1
  exact same_c A0 c0 a A1 c1 b w h0 hc0 h1 hc1 hn
theorem num_c (n : Int) (w : World) (h0 : 0 ≤ n) (h1 : n ≤ 18446744073709551615) : Calls Try.prog 104 #[.int .u64 n] w (Makes w (numB n)) := by
  obtain ⟨k, h⟩ := (num_ev n h0 h1).rounds
  exact tlv_Num.calls k n _ w h
theorem rnum_c (n : Int) (w : World) (h0 : 0 ≤ n) (h1 : n ≤ 18446744073709551615) : Calls Try.prog 107 #[.int .u64 n] w (Makes w (numB n)) := by
  obtain ⟨k, h⟩ := (rnum_ev n h0 h1).rounds
  exact hanaperref01_Num.calls k n _ w h
theorem text_c (A0 : Option Addr) (c0 : Nat) (l : List Int) (w : World) (hr : Rb w A0 l) (hc : l.length ≤ c0) (hl : l.length < 140737488355000) : Calls Try.prog 56 #[.slice A0 l.length c0] w (Makes w (textB l)) := by
  obtain ⟨k, h⟩ := (text_ev l hl).rounds
  exact tlv_Text.calls k A0 c0 l _ w hr hc h
theorem rtext_c (A0 : Option Addr) (c0 : Nat) (l : List Int) (w : World) (hr : Rb w A0 l) (hc : l.length ≤ c0) (hl : l.length < 140737488355000) : Calls Try.prog 60 #[.slice A0 l.length c0] w (Makes w (textB l)) := by
  obtain ⟨k, h⟩ := (rtext_ev l hl).rounds
  exact hanaperref01_Text.calls k A0 c0 l _ w hr hc h
theorem int_c (n : Int) (w : World) : Calls Try.prog 57 #[.int .i64 n] w (Makes w (intB n)) := by
  obtain ⟨k, h⟩ := (int_ev n).rounds
  exact tlv_Int.calls k n _ w h
theorem rint_c (n : Int) (w : World) : Calls Try.prog 61 #[.int .i64 n] w (Makes w (intB n)) := by
  obtain ⟨k, h⟩ := (rint_ev n).rounds
  exact hanaperref01_Int.calls k n _ w h
theorem all_c (A0 : Option Addr) (c0 : Nat) (l : List (List Int)) (w : World) (hr : Kd.C (Kd.slice 5 (Kd.int .u8)) w A0 l.length l) (hc : l.length ≤ c0) (hl : l.length ≤ 4611686018427387904) (ht : l.flatten.length < 140737488355328) :
    Calls Try.prog 55 #[.slice A0 l.length c0] w (Makes w l.flatten) := by
  obtain ⟨k, h⟩ := (all_ev l hl ht).rounds
  exact tlv_All.calls k A0 c0 l _ w hr hc h
theorem copy_c (A0 : Option Addr) (c0 : Nat) (l : List Int) (w : World) (hr : Rb w A0 l) (hc : l.length ≤ c0) (hl : l.length < 140737488355328) : Calls Try.prog 93 #[.slice A0 l.length c0] w (Makes w l) :=
  hanaperref01_Copy.calls A0 c0 l _ w hr hc (copy_ev l hl)
theorem copy_n (A0 : Option Addr) (c0 n : Nat) (l : List Int) (w : World) (hr : Rb w A0 l) (hn : l.length = n) (hc : n ≤ c0) (hl : n < 140737488355328) : Calls Try.prog 93 #[.slice A0 n c0] w (Makes w l) := by
  subst hn
  exact copy_c A0 c0 l w hr hc hl
theorem value_c (A0 : Option Addr) (c0 : Nat) (l : List Int) (w : World) (hr : Rb w A0 l) (hc : l.length ≤ c0) (hu : U8 l) (h8 : l.length ≤ 8) :
    Calls Try.prog 124 #[.slice A0 l.length c0] w fun e w' => e = .returned (.int .u64 (valueB l)) ∧ Drawn0 w w' := by
  obtain ⟨k, h⟩ := (value_ev l hu h8).rounds
  exact hanaperref01_Value.calls k A0 c0 l _ w hr hc h
end Go.Proofs.Ytgdpabedlghiaaa.Lo
/- Lists of bytes that are the same. -/
namespace Go.Proofs.Ytgdpabedlghiaaa.Same0
open Go.Proofs.Ytgdpabedlghiaaa.Base Go.Proofs.Ytgdpabedlghiaaa.Aid Go.RowKit Go.Proofs.YtgdpabedlghiaaaW.PrintWords Go.Proofs.YtgdpabedlghiaaaW.PrintLast Go.Proofs.YtgdpabedlghiaaaW.PrintMore Go.Proofs.Ytgdpabedlghiaaa.PZ

theorem same_from (a b : List Int) (hl : a.length = b.length) (hn : a.length ≤ 4611686018427387904) : ∀ (d i : Nat), i + d = a.length →
    Ev (fun k => hanaperref01_Same.l0 k a b i) (decide (a.drop i = b.drop i)) := by
  intro d
  induction d with
  | zero =>
    intro i hi
    refine Ev.step (fun k => by simp only [hanaperref01_Same.l0]; rfl) ?_
    refine neg (by omega) (now ?_)
    rw [List.drop_of_length_le (by omega), List.drop_of_length_le (by omega)]; simp
  | succ d ih =>
    intro i hi
    refine Ev.step (fun k => by simp only [hanaperref01_Same.l0]; rfl) ?_
    refine pos (by omega) (pos (by omega) (pos (by omega) ?_))
    rw [rd_nat a i (by omega), rd_nat b i (by omega), drop_cons a i (by omega), drop_cons b i (by omega), inc (show i < a.length by omega) hn]
    by_cases e : a[i]'(by omega) = b[i]'(by omega)
    · refine pos e ?_
      have := ih (i + 1) (by omega)
      generalize a.drop (i + 1) = A at this ⊢
      generalize b.drop (i + 1) = B at this ⊢
      simpa [e] using this
    · refine neg e (now ?_)
      generalize a.drop (i + 1) = A
      generalize b.drop (i + 1) = B
      simp [e]
theorem same_ev (a b : List Int) (hn : a.length ≤ 4611686018427387904) : Ev (fun k => hanaperref01_Same.f k a b) (decide (a = b)) := by
  unfold hanaperref01_Same.f
  by_cases e : a.length = b.length
  · refine pos (by omega) ?_
    simpa using same_from a b e hn a.length 0 (by omega)
  · refine neg (by omega) (now ?_)
    have : a ≠ b := fun h => e (by rw [h])
    simp [this]
theorem same_c (A0 : Option Addr) (c0 : Nat) (a : List Int) (A1 : Option Addr) (c1 : Nat) (b : List Int) (w : World) (h0 : Rb w A0 a) (hc0 : a.length ≤ c0) (h1 : Rb w A1 b) (hc1 : b.length ≤ c1) (hn : a.length ≤ 4611686018427387904) :
    Calls Try.prog 18 #[.slice A0 a.length c0, .slice A1 b.length c1] w fun e w' => e = .returned (.bool (decide (a = b))) ∧ Drawn0 w w' := by
  obtain ⟨k, h⟩ := (same_ev a b hn).rounds
  exact hanaperref01_Same.calls k A0 c0 a A1 c1 b _ w h0 hc0 h1 hc1 h
theorem same_n (A0 : Option Addr) (c0 n0 : Nat) (a : List Int) (A1 : Option Addr) (c1 n1 : Nat) (b : List Int) (w : World) (h0 : Rb w A0 a) (e0 : a.length = n0) (hc0 : n0 ≤ c0) (h1 : Rb w A1 b) (e1 : b.length = n1) (hc1 : n1 ≤ c1) (hn : n0 ≤ 4611686018427387904) :
    Calls Try.prog 18 #[.slice A0 n0 c0, .slice A1 n1 c1] w fun e w' => e = .returned (.bool (decide (a = b))) ∧ Drawn0 w w' := by
  subst e0; subst e1
  exact same_c A0 c0 a A1 c1 b w h0 hc0 h1 hc1 hn
theorem same_t (A0 : Option Addr) (c0 n0 : Nat) (a : List Int) (A1 : Option Addr) (c1 n1 : Nat) (b : List Int) (w : World) (h0 : Rb w A0 a) (e0 : a.length = n0) (hc0 : n0 ≤ c0) (h1 : Rb w A1 b) (e1 : b.length = n1) (hc1 : n1 ≤ c1) (hn : n0 ≤ 4611686018427387904) (he : a = b) :
    Calls Try.prog 18 #[.slice A0 n0 c0, .slice A1 n1 c1] w fun e w' => e = .returned (.bool true) ∧ Drawn0 w w' := by
  refine (same_n A0 c0 n0 a A1 c1 n1 b w h0 e0 hc0 h1 e1 hc1 hn).mono ?_
  rintro e w' ⟨rfl, h⟩
  exact ⟨by rw [decide_eq_true he], h⟩
end Go.Proofs.Ytgdpabedlghiaaa.Same0
/- Which texts may be names: the document's answer is the same. -/
namespace Go.Proofs.Ytgdpabedlghiaaa.Name
open Go.RowKit Go.Lib Go.Proofs.Ytgdpabedlghiaaa.Base Go.Proofs.Ytgdpabedlghiaaa.Aid Go.Proofs.Ytgdpabedlghiaaa.PZ Go.Proofs.YtgdpabedlghiaaaW.PrintWords Go.Proofs.YtgdpabedlghiaaaW.PrintLast Go.Proofs.YtgdpabedlghiaaaW.PrintMore

theorem letB_high {r : Nat} (h : 128 ≤ r) : letB r = false := by
  unfold letB
  rw [decide_eq_false (p := r ≤ 122) (by omega), decide_eq_false (p := r ≤ 57) (by omega), decide_eq_false (p := r = 46) (by omega), decide_eq_false (p := r = 45) (by omega), decide_eq_false (p := r = 95) (by omega)]
  simp
theorem dec_low (s : ByteArray) (pos : Nat) (hb : (s.get! pos).toNat < 128) : Utf8.decode s pos = ((s.get! pos).toNat, 1) := by
  unfold Utf8.decode
  simp only [Nat.add_zero]
  rw [if_pos hb]
theorem dec_high (s : ByteArray) (pos : Nat) (hb : ¬ (s.get! pos).toNat < 128) : 128 ≤ (Utf8.decode s pos).1 := by
  unfold Utf8.decode
  simp only [Nat.add_zero]
  rw [if_neg hb]
  split
  · split
    · assumption
    · simp [Utf8.runeError]
  · split
    · split
      · next h => simp only [Bool.and_eq_true, decide_eq_true_eq] at h; omega
      · simp [Utf8.runeError]
    · split
      · split
        · next h => simp only [Bool.and_eq_true, decide_eq_true_eq] at h; omega
        · simp [Utf8.runeError]
      · simp [Utf8.runeError]
theorem bt_get (s : ByteArray) (i : Nat) (h : i < s.size) : bt s (i : Int) = ((s.get! i).toNat : Int) := by
  unfold bt
  rw [Int.toNat_natCast, dif_pos h]
  congr 2
  show s.data[i] = s.data[i]!
  exact (getElem!_pos s.data i h).symm
theorem idx_all (s : ByteArray) : ∀ (f pos : Nat), s.size ≤ pos + f → (Lib.idxFuncFrom (fun r => !letB r) true s f pos < 0 ↔ ∀ i, pos ≤ i → i < s.size → letB (s.get! i).toNat = true) := by
  intro f
  induction f with
  | zero =>
    intro pos h
    constructor
    · intro _ i h1 h2; omega
    · intro _; show (-1 : Int) < 0; omega
  | succ f ih =>
    intro pos h
    unfold Lib.idxFuncFrom
    by_cases hp : pos < s.size
    · rw [if_pos hp]
      by_cases hb : (s.get! pos).toNat < 128
      · rw [dec_low s pos hb]
        dsimp only
        cases hl : letB (s.get! pos).toNat with
        | false =>
          rw [if_pos (by rfl)]
          constructor
          · intro h2; omega
          · intro h2; have := h2 pos (Nat.le_refl _) hp; rw [hl] at this; cases this
        | true =>
          rw [if_neg (by simp), ih (pos + 1) (by omega)]
          constructor
          · intro h2 i h3 h4
            by_cases e : i = pos
            · rw [e]; exact hl
            · exact h2 i (by omega) h4
          · intro h2 i h3 h4; exact h2 i (by omega) h4
      · have hd := dec_high s pos hb
        rw [if_pos (by rw [letB_high hd]; rfl)]
        constructor
        · intro h2; omega
        · intro h2
          have := h2 pos (Nat.le_refl _) hp
          rw [letB_high (by omega)] at this
          cases this
    · rw [if_neg hp]
      constructor
      · intro _ i h1 h2; omega
      · intro _; omega
theorem name_iff (s : ByteArray) : nameB s = (decide (∀ i, i < s.size → letB (s.get! i).toNat = true) && (decide (1 ≤ s.size) && decide (s.size ≤ 16))) := by
  unfold nameB Lib.idxFunc
  congr 1
  have := idx_all s s.size 0 (by omega)
  exact decide_eq_decide.2 (this.trans ⟨fun h i hi => h i (Nat.zero_le _) hi, fun h i _ hi => h i hi⟩)
theorem name_ev (s : ByteArray) (hs : s.size ≤ 4611686018427387904) : Ev (fun k => hanaperref12_Name.f k s) (nameB s) := by
  have key : ∀ (d i : Nat), i + d = s.size → (∀ j, j < i → letB (s.get! j).toNat = true) → Ev (fun k => hanaperref12_Name.l0 k s (i : Int)) (nameB s) := by
    intro d
    induction d with
    | zero =>
      intro i hi hall
      refine Ev.step (fun k => by simp only [hanaperref12_Name.l0]; rfl) ?_
      refine neg (by omega) ?_
      have h1 : nameB s = (decide (1 ≤ s.size) && decide (s.size ≤ 16)) := by
        rw [name_iff, decide_eq_true (p := ∀ i, i < s.size → letB (s.get! i).toNat = true) (fun j hj => hall j (by omega)), Bool.true_and]
      by_cases h2 : 1 ≤ s.size
      · refine pos (by omega) (now ?_)
        rw [h1, decide_eq_true h2, Bool.true_and]
        exact decide_eq_decide.2 (by omega)
      · refine neg (by omega) (now ?_)
        rw [h1, decide_eq_false h2, Bool.false_and]
    | succ d ih =>
      intro i hi hall
      have hil : i < s.size := by omega
      have hc := bt_get s i hil
      have hr := bt_range s (i : Int)
      refine Ev.step (fun k => by simp only [hanaperref12_Name.l0]; rfl) ?_
      refine pos (by omega) (pos (by omega) ?_)
      rw [inc hil hs]
      have hgo : letB (s.get! i).toNat = true → Ev (fun k => hanaperref12_Name.l0 k s ((i + 1 : Nat) : Int)) (nameB s) := fun h => ih (i + 1) (by omega) (fun j hj => by
        by_cases e : j = i
        · rw [e]; exact h
        · exact hall j (by omega))
      have hno : letB (s.get! i).toNat = false → Ev (fun _ => some false) (nameB s) := fun h => now (by
        rw [name_iff, decide_eq_false (p := ∀ i, i < s.size → letB (s.get! i).toNat = true) (fun h2 => by have := h2 i hil; rw [h] at this; cases this), Bool.false_and])
      obtain ⟨c, hcc⟩ : ∃ c, bt s (i : Int) = c := ⟨_, rfl⟩
      obtain ⟨g, hg⟩ : ∃ g, (s.get! i).toNat = g := ⟨_, rfl⟩
      rw [hcc] at hc hr ⊢
      rw [hg] at hc hgo hno
      have hl : letB g = true ↔ ((97 ≤ c ∧ c ≤ 122) ∨ (48 ≤ c ∧ c ≤ 57) ∨ c = 46 ∨ c = 45 ∨ c = 95) := by
        simp only [letB, Bool.or_eq_true, Bool.and_eq_true, decide_eq_true_eq]
        omega
      have hl2 : letB g = false ↔ ¬ ((97 ≤ c ∧ c ≤ 122) ∨ (48 ≤ c ∧ c ≤ 57) ∨ c = 46 ∨ c = 45 ∨ c = 95) := by
        rw [← hl]
        cases letB g <;> simp
      rw [hl] at hgo
      rw [hl2] at hno
      have hcases : c < 45 ∨ c = 45 ∨ c = 46 ∨ c = 47 ∨ (48 ≤ c ∧ c ≤ 57) ∨ (58 ≤ c ∧ c ≤ 94) ∨ c = 95 ∨ c = 96 ∨ (97 ≤ c ∧ c ≤ 122) ∨ 122 < c := by omega
      rcases hcases with h | h | h | h | h | h | h | h | h | h
      all_goals
        repeat (first | refine pos (by omega) ?_ | refine neg (by omega) ?_)
        first | exact hgo (by omega) | exact hno (by omega)
  exact key s.size 0 (by omega) (fun j hj => by omega)
theorem rname_c (s : ByteArray) (w : World) (hs : s.size ≤ 4611686018427387904) : Calls Try.prog 22 #[.string s] w fun e w' => e = .returned (.bool (nameB s)) ∧ Drawn0 w w' := by
  obtain ⟨k, h⟩ := (name_ev s hs).rounds
  exact hanaperref12_Name.calls k s _ w h
end Go.Proofs.Ytgdpabedlghiaaa.Name
/- Which inodes may be: both answer alike. -/
namespace Go.Proofs.Ytgdpabedlghiaaa.InodeEv
open Go.RowKit Go.Proofs.Ytgdpabedlghiaaa.Base Go.Proofs.Ytgdpabedlghiaaa.Name Go.Proofs.Ytgdpabedlghiaaa.AllocEv Go.Proofs.Ytgdpabedlghiaaa.Aid Go.Proofs.Ytgdpabedlghiaaa.PZ Go.Proofs.YtgdpabedlghiaaaW.PrintWords Go.Proofs.YtgdpabedlghiaaaW.PrintLast Go.Proofs.YtgdpabedlghiaaaW.PrintMore

def pagesV (a : Int) : Int := if a < 1 then 0 else wrap64 (wrap64 (Int.tdiv (wrap64 (a - 1)) 256) + 1)
theorem apages_f (a : Int) : alloc_Pages.f a = some (pagesV a) := by unfold alloc_Pages.f pagesV; split <;> rfl
theorem rpages_f (a : Int) : hanaperref11_Pages.f a = some (pagesV a) := by unfold hanaperref11_Pages.f pagesV; split <;> rfl
/-- Which inodes may be. -/
def mayB (nm : ByteArray) (size : Int) (at_ : List Int) (n : Int) : Bool :=
  nameB nm && (decide (0 ≤ n) && (decide (n ≤ 1024) && (decide (0 ≤ size) && (decide (size ≤ 24576) && ((bitsSpec at_ n).2 && decide ((at_.length : Int) = pagesV size))))))
theorem check_ev (nm : ByteArray) (size : Int) (at_ : List Int) (n : Int) (hl : at_.length ≤ 4611686018427387904) : Ev (fun k => inode_Check.f k nm size at_ n) (if mayB nm size at_ n = true then 0 else 1) := by
  have hbad : ∀ (b : Bool), b = true → mayB nm size at_ n = false → Ev (fun k => inode_Check.j0 k n b nm size at_) (if mayB nm size at_ n = true then 0 else 1) := by
    intro b hb hm
    rw [hm]
    refine Ev.step (fun k => by simp only [inode_Check.j0]; rfl) ?_
    exact pos hb (now (by simp))
  unfold inode_Check.f
  by_cases h1 : n < 0
  · exact pos h1 (hbad true rfl (by unfold mayB; rw [decide_eq_false (p := 0 ≤ n) (by omega)]; simp))
  refine neg h1 ?_
  by_cases h2 : n > 1024
  · exact pos h2 (hbad true rfl (by unfold mayB; rw [decide_eq_false (p := n ≤ 1024) (by omega)]; simp))
  refine neg h2 (bindSome rfl ?_)
  cases h3 : nameB nm with
  | false => exact neg (by simp) (hbad true rfl (by unfold mayB; rw [h3]; simp))
  | true =>
    refine pos rfl ?_
    by_cases h4 : size < 0
    · exact pos h4 (hbad true rfl (by unfold mayB; rw [decide_eq_false (p := 0 ≤ size) (by omega)]; simp))
    refine neg h4 ?_
    by_cases h5 : size > 24576
    · exact hbad _ (decide_eq_true h5) (by unfold mayB; rw [decide_eq_false (p := size ≤ 24576) (by omega)]; simp)
    have hm : mayB nm size at_ n = ((bitsSpec at_ n).2 && decide ((at_.length : Int) = pagesV size)) := by
      unfold mayB
      rw [h3, decide_eq_true (p := 0 ≤ n) (by omega), decide_eq_true (p := n ≤ 1024) (by omega), decide_eq_true (p := 0 ≤ size) (by omega), decide_eq_true (p := size ≤ 24576) (by omega)]
      simp
    rw [decide_eq_false h5]
    refine Ev.step (fun k => by simp only [inode_Check.j0]; rfl) ?_
    refine neg (by simp) (evBind (bits_ev at_ n hl) ?_)
    rw [hm]
    cases (bitsSpec at_ n).2 with
    | false => exact neg (by simp) (now (by simp))
    | true =>
      refine pos rfl (bindSome (apages_f size) ?_)
      by_cases h6 : (at_.length : Int) = pagesV size
      · exact pos h6 (now (by simp [h6]))
      · exact neg h6 (now (by simp [h6]))
theorem may_ev (nm : ByteArray) (size : Int) (at_ : List Int) (n : Int) (hl : at_.length ≤ 4611686018427387904) (hs : nm.size ≤ 4611686018427387904) : Ev (fun k => hanaperref12_May.f k nm size at_ n) (mayB nm size at_ n) := by
  have hbad : ∀ (b : Bool), b = true → mayB nm size at_ n = false → Ev (fun k => hanaperref12_May.j0 k n b nm size at_) (mayB nm size at_ n) := by
    intro b hb hm
    rw [hm]
    refine Ev.step (fun k => by simp only [hanaperref12_May.j0]; rfl) ?_
    exact pos hb (now rfl)
  unfold hanaperref12_May.f
  refine evBind (name_ev nm hs) ?_
  cases h3 : nameB nm with
  | false => exact neg (by simp) (hbad true rfl (by unfold mayB; rw [h3]; simp))
  | true =>
    refine pos rfl ?_
    by_cases h1 : n < 0
    · exact pos h1 (hbad true rfl (by unfold mayB; rw [decide_eq_false (p := 0 ≤ n) (by omega)]; simp))
    refine neg h1 ?_
    by_cases h2 : n > 1024
    · exact pos h2 (hbad true rfl (by unfold mayB; rw [decide_eq_false (p := n ≤ 1024) (by omega)]; simp))
    refine neg h2 ?_
    by_cases h4 : size < 0
    · exact pos h4 (hbad true rfl (by unfold mayB; rw [decide_eq_false (p := 0 ≤ size) (by omega)]; simp))
    refine neg h4 ?_
    by_cases h5 : size > 24576
    · exact hbad _ (decide_eq_true h5) (by unfold mayB; rw [decide_eq_false (p := size ≤ 24576) (by omega)]; simp)
    have hm : mayB nm size at_ n = ((bitsSpec at_ n).2 && decide ((at_.length : Int) = pagesV size)) := by
      unfold mayB
      rw [h3, decide_eq_true (p := 0 ≤ n) (by omega), decide_eq_true (p := n ≤ 1024) (by omega), decide_eq_true (p := 0 ≤ size) (by omega), decide_eq_true (p := size ≤ 24576) (by omega)]
      simp
    rw [decide_eq_false h5]
    refine Ev.step (fun k => by simp only [hanaperref12_May.j0]; rfl) ?_
    refine neg (by simp) (evBind (bits_doc_ev at_ n hl) ?_)
    rw [hm]
    cases (bitsSpec at_ n).2 with
    | false => exact neg (by simp) (now (by simp))
    | true =>
      refine pos rfl (bindSome (rpages_f size) (now ?_))
      rw [Bool.true_and, Bool.eq_iff_iff]
      simp
end Go.Proofs.Ytgdpabedlghiaaa.InodeEv
/- inode.Put and the document's: an inode's bytes. -/
namespace Go.Proofs.Ytgdpabedlghiaaa.InodePut
open Go.RowKit Go.Proofs.Ytgdpabedlghiaaa.Base Go.Proofs.Ytgdpabedlghiaaa.Name Go.Proofs.Ytgdpabedlghiaaa.InodeEv Go.Proofs.Ytgdpabedlghiaaa.AllocEv Go.Proofs.Ytgdpabedlghiaaa.Lo Go.Proofs.Ytgdpabedlghiaaa.TlvPlain Go.Proofs.Ytgdpabedlghiaaa.Aid Go.Proofs.Ytgdpabedlghiaaa.PZ Go.Proofs.YtgdpabedlghiaaaW.PrintWords Go.Proofs.YtgdpabedlghiaaaW.PrintLast Go.Proofs.YtgdpabedlghiaaaW.PrintMore

/-- An inode's bytes. -/
def putB (nm : ByteArray) (size : Int) (at_ : List Int) (n : Int) : List Int := [textB (bytesOf nm), intB size, (bitsSpec at_ n).1].flatten
theorem check_c (nm : ByteArray) (size : Int) (A : Option Addr) (c : Nat) (at_ : List Int) (n : Int) (w : World) (hr : Kd.C (Kd.int .i64) w A at_.length at_) (hc : at_.length ≤ c) (hl : at_.length ≤ 4611686018427387904) :
    Calls Try.prog 20 #[.agg #[.string nm, .int .i64 size, .slice A at_.length c], .int .i64 n] w fun e w' => e = .returned (.int .i64 (if mayB nm size at_ n = true then 0 else 1)) ∧ Below w.heap.size w w' := by
  obtain ⟨k, h⟩ := (check_ev nm size at_ n hl).rounds
  exact inode_Check.calls k nm size A c at_ n _ w hr hc h
theorem bits_c (A : Option Addr) (c : Nat) (at_ : List Int) (n : Int) (w : World) (hr : Kd.C (Kd.int .i64) w A at_.length at_) (hc : at_.length ≤ c) (hl : at_.length ≤ 4611686018427387904) :
    Calls Try.prog 54 #[.slice A at_.length c, .int .i64 n] w fun e w' => ∃ v, e = .returned (.tuple #[v, .bool (bitsSpec at_ n).2]) ∧ Ob w' w.heap.size v (bitsSpec at_ n).1 ∧ Below w.heap.size w w' := by
  obtain ⟨k, h⟩ := (bits_ev at_ n hl).rounds
  exact alloc_Bits.calls k A c at_ n _ _ w hr hc h
/-- A slice of rows that was just laid, read. -/
theorem rows_new {W : World} {e : TypeId} (xs : List (List Int)) (inner : List Value)
    (hi : inner.length = xs.length ∧ ∀ (j : Nat) (l : List Int), xs[j]? = some l → ∃ A c, inner[j]? = some (Value.slice A l.length c) ∧ l.length ≤ c ∧ Rb W A l) (hm : xs.length ≤ 9223372036854775807) :
    Rr (W.alloc (.cells inner.toArray e)) (some ⟨W.heap.size, 0, none⟩) xs := by
  refine ⟨rfl, hm, fun _ => ⟨_, rfl, fun j l hj => ?_⟩⟩
  obtain ⟨A, c, h1, h2, h3⟩ := hi.2 j l hj
  refine ⟨[.slice A l.length c], rfl, ⟨A, c, rfl, h2, Kd.C_alloc h3 _⟩, fun i u hu => ?_⟩
  have hi0 : i = 0 := by
    have := (List.getElem?_eq_some_iff.1 hu).1
    simp at this
    exact this
  subst hi0
  rw [show j * (Kd.slice 5 (Kd.int .u8)).sz + 0 = j from by show j * 1 + 0 = j; omega, add_plain]
  rw [World.cell?_alloc_new]
  rw [show inner.toArray[j]? = inner[j]? from by simp, h1]
  exact hu

theorem text_n (A0 : Option Addr) (c0 n0 : Nat) (l : List Int) (w : World) (h0 : Rb w A0 l) (e0 : l.length = n0) (hc0 : n0 ≤ c0) (hn : n0 ≤ 100000) :
    Calls Try.prog 56 #[.slice A0 n0 c0] w (Makes w (textB l)) := by
  subst e0
  exact text_c A0 c0 l w h0 hc0 (by omega)
theorem cell_al {W : World} {a : Addr} {v : Value} (h : W.cell? a = some v) (o : Obj) : (W.alloc o).cell? a = some v :=
  ((below_alloc (Below.refl W.heap.size W) o).cell (World.block_lt_of_cell? W a h)).trans h
theorem grown_le (w : World) (n o e : Nat) : n ≤ grownCap w n o e := by
  exact grownCap_ge w n o e

set_option maxHeartbeats 2000000 in
set_option maxRecDepth 100000 in
theorem put_no (nm : ByteArray) (size : Int) (A : Option Addr) (c : Nat) (at_ : List Int) (n : Int) (w : World) (hr : Kd.C (Kd.int .i64) w A at_.length at_) (hc : at_.length ≤ c) (hl : at_.length ≤ 1000) (hm : mayB nm size at_ n = false) :
    Calls Try.prog 16 #[.agg #[.string nm, .int .i64 size, .slice A at_.length c], .int .i64 n] w fun e w' => e = .returned (.tuple #[.slice none 0 0, .int .i64 1]) ∧ Below w.heap.size w w' := by
  have hC := fun W (h : Below w.heap.size w W) => check_c nm size A c at_ n W (Kd.C_below hr h) hc (by omega)
  rw [hm] at hC
  simp only [Bool.false_eq_true, if_false] at hC
  have HC := Aside0.mk hC
  clear hC hr hc hl hm
  go_enter Try.func16, Try.ntmps16
  go_wp2_with (go_at_call 20; refine (HC.out _ (below_alloc (Below.refl _ _) _)).mono ?_; rintro e w1 ⟨rfl, hb⟩)
  go_ret2
  exact ⟨rfl, below_step (below_alloc (Below.refl _ _) _) hb⟩

set_option maxHeartbeats 2000000 in
set_option maxRecDepth 100000 in
theorem put_yes (nm : ByteArray) (size : Int) (A : Option Addr) (c : Nat) (at_ : List Int) (n : Int) (w : World) (hr : Kd.C (Kd.int .i64) w A at_.length at_) (hc : at_.length ≤ c) (hl : at_.length ≤ 1000) (hm : mayB nm size at_ n = true) (hs : nm.size ≤ 1000) :
    Calls Try.prog 16 #[.agg #[.string nm, .int .i64 size, .slice A at_.length c], .int .i64 n] w fun e w' => ∃ v, e = .returned (.tuple #[v, .int .i64 0]) ∧ Ob w' w.heap.size v (putB nm size at_ n) ∧ Below w.heap.size w w' := by
  have hC := fun W (h : Below w.heap.size w W) => check_c nm size A c at_ n W (Kd.C_below hr h) hc (by omega)
  rw [hm] at hC
  simp only [if_true] at hC
  have HC := Aside0.mk hC
  have hBt := fun W (h : Below w.heap.size w W) => bits_c A c at_ n W (Kd.C_below hr h) hc (by omega)
  have hbl := bitsSpec_len at_ n
  obtain ⟨X, hX⟩ : ∃ X, (bitsSpec at_ n).1 = X := ⟨_, rfl⟩
  obtain ⟨P, hP⟩ : ∃ P, [textB (bytesOf nm), intB size, X].flatten = P := ⟨_, rfl⟩
  have hPP : putB nm size at_ n = P := by unfold putB; rw [hX, hP]
  rw [hPP]
  rw [hX] at hBt hbl
  have HBt := Aside0.mk hBt
  have HBL := Aside0.mk hbl
  have HP := Aside0.mk hP
  have kb := fun W => print_bytes (P := Try.prog) 9 27 5 Try.underlying9 Try.underlying27 Try.underlying5 nm W
  have HS := Aside0.mk hs
  clear hC hBt hr hc hl hm hX hP hPP hbl
  go_enter Try.func16, Try.ntmps16
  go_wp2_with (go_at_call 20; refine (HC.out _ (below_alloc (Below.refl _ _) _)).mono ?_; rintro e w1 ⟨rfl, hb⟩; have HB := Aside0.mk (below_step (below_alloc (Below.refl _ _) _) hb); have hc0 : w1.cell? ⟨w.heap.size, 0, none⟩ = some (.string nm) := (hb.cell (p := ⟨w.heap.size, 0, none⟩) (by simp)).trans (by simp [World.cell?_alloc_new]); have hc1 : w1.cell? ⟨w.heap.size, 1, none⟩ = some (.int .i64 size) := (hb.cell (p := ⟨w.heap.size, 1, none⟩) (by simp)).trans (by simp [World.cell?_alloc_new]); have hc2 : w1.cell? ⟨w.heap.size, 2, none⟩ = some (.slice A at_.length c) := (hb.cell (p := ⟨w.heap.size, 2, none⟩) (by simp)).trans (by simp [World.cell?_alloc_new]); clear hb)
  refine (HBt.out _ HB.out).mono ?_
  rintro e w2 ⟨v, rfl, ho, hb⟩
  have d0 : w2.cell? ⟨w.heap.size, 0, none⟩ = some (.string nm) := (hb.cell (World.block_lt_of_cell? w1 _ hc0)).trans hc0
  have d1 : w2.cell? ⟨w.heap.size, 1, none⟩ = some (.int .i64 size) := (hb.cell (World.block_lt_of_cell? w1 _ hc1)).trans hc1
  have HB2 := Aside0.mk (below_step HB.out hb)
  obtain ⟨A3, c3, rfl, hl3, hr3⟩ := Ob.reads ho
  have HR3 := Aside0.mk hr3
  have HL3 := Aside0.mk hl3
  have HD0 := Aside0.mk d0
  have HD1 := Aside0.mk d1
  have HTR := Aside0.mk (show Rb (Lib.bytesWorld w2.drew 5 nm) (some ⟨w2.drew.heap.size, 0, none⟩) (bytesOf nm) by
    have h := Kd.C_of_reads (d := (0 : Int)) (h1 := fun _ => rfl) (bytes_reads w2.drew 5 nm (by omega))
    show Kd.C _ _ _ (bytesOf nm).length (bytesOf nm)
    rw [bytesOf_length]
    exact h)
  have HBW := Aside0.mk (bytes_below (below_drew1 HB2.out) (below_drew1 HB2.out).size 5 nm)
  have HR3b := Aside0.mk (Kd.C_below (Kd.C_drew HR3.out) (bytes_below (Below.refl w2.drew.heap.size w2.drew) (Nat.le_refl _) 5 nm))
  have k0 : (Lib.bytesWorld w2.drew 5 nm).cell? ⟨w.heap.size, 0, none⟩ = some (.string nm) := (Lib.bytesWorld_old w2.drew 5 nm _ (World.block_lt_of_cell? w2 _ d0)).trans d0
  have k1 : (Lib.bytesWorld w2.drew 5 nm).cell? ⟨w.heap.size, 1, none⟩ = some (.int .i64 size) := (Lib.bytesWorld_old w2.drew 5 nm _ (World.block_lt_of_cell? w2 _ d1)).trans d1
  have HK0 := Aside0.mk k0
  have HK1 := Aside0.mk k1
  have HT := Aside0.mk (numB_len (n := ((bytesOf nm).length : Int)) (by rw [bytesOf_length]; omega))
  have HI := Aside0.mk (numB_len (n := IntKind.u64.wrap size) (u64_range size).2)
  have HNL := Aside0.mk (bytesOf_length nm)
  have HPL := Aside0.mk (show [textB (bytesOf nm), intB size, X].flatten.length < 140737488355328 by
    have h1 := HT.out
    have h2 := HI.out
    have h3 := HBL.out
    simp only [List.flatten_cons, List.flatten_nil, List.append_nil, List.length_append, intB, textB, bytesOf_length] at *
    omega)
  clear ho hl3 hr3 hb hc0 hc1 hc2 HB HC HBt hs
  go_wp2_with (fail)
  go_region_law (first
    | (go_simp; go_at_call 56; refine (text_n (some ⟨_, 0, none⟩) _ nm.size (bytesOf nm) _ HTR.out HNL.out (grown_le _ _ _ _) (by have := HS.out; omega)).mono ?_; rintro e w4 ⟨v, rfl, ho, hb⟩; have m0 := (hb.cell (World.block_lt_of_cell? _ _ HK0.out)).trans HK0.out; have m1 := (hb.cell (World.block_lt_of_cell? _ _ HK1.out)).trans HK1.out; have HB4 := Aside0.mk (below_step HBW.out hb); have HR3c := Aside0.mk (Kd.C_below HR3b.out hb); clear hb; obtain ⟨A5, c5, rfl, hl_, hr_⟩ := Ob.reads ho; have HR5 := Aside0.mk hr_; have HL5 := Aside0.mk hl_; clear ho hl_ hr_)
    | (go_simp; go_at_call 57; refine (int_c size _).mono ?_; rintro e w5 ⟨v, rfl, ho, hb⟩; have q0 := (hb.cell (World.block_lt_of_cell? _ _ m0)).trans m0; have q1 := (hb.cell (World.block_lt_of_cell? _ _ m1)).trans m1; have HB5 := Aside0.mk (below_step HB4.out hb); have HR3d := Aside0.mk (Kd.C_below HR3c.out hb); have HR5b := Aside0.mk (Kd.C_below HR5.out hb); clear hb; obtain ⟨A6, c6, rfl, hl_, hr_⟩ := Ob.reads ho; have HR6 := Aside0.mk hr_; have HL6 := Aside0.mk hl_; clear ho hl_ hr_; have HROWS := Aside0.mk (rows3 HR5b.out HL5.out HR6.out HL6.out HR3d.out HL3.out))
    | (go_simp; go_at_call 55; refine (all_c (some ⟨_, 0, none⟩) 3 [textB (bytesOf nm), intB size, X] _ (rows_new _ _ HROWS.out (by simp)) (by simp) (by simp) HPL.out).mono ?_; rintro e w6 ⟨v, rfl, ho, hb⟩; have s0 := (hb.cell (World.block_lt_of_cell? _ _ (cell_al q0 _))).trans (cell_al q0 _); have s1 := (hb.cell (World.block_lt_of_cell? _ _ (cell_al q1 _))).trans (cell_al q1 _); have HB6 := Aside0.mk (below_step (below_alloc HB5.out _) hb); rw [HP.out] at ho; have HO7 := Aside0.mk (Kd.R_lower ho (below_alloc HB5.out _).size); obtain ⟨A7, c7, rfl, _, _⟩ := Ob.reads ho; clear hb ho))
  all_goals
    go_wp2
    go_ret2
    exact ⟨_, rfl, HO7.out, HB6.out⟩
end Go.Proofs.Ytgdpabedlghiaaa.InodePut
/- The document's Put. -/
namespace Go.Proofs.Ytgdpabedlghiaaa.InodePut
open Go.RowKit Go.Proofs.Ytgdpabedlghiaaa.Base Go.Proofs.Ytgdpabedlghiaaa.Name Go.Proofs.Ytgdpabedlghiaaa.InodeEv Go.Proofs.Ytgdpabedlghiaaa.AllocEv Go.Proofs.Ytgdpabedlghiaaa.Lo Go.Proofs.Ytgdpabedlghiaaa.TlvPlain Go.Proofs.Ytgdpabedlghiaaa.Aid Go.Proofs.Ytgdpabedlghiaaa.PZ Go.Proofs.YtgdpabedlghiaaaW.PrintWords Go.Proofs.YtgdpabedlghiaaaW.PrintLast Go.Proofs.YtgdpabedlghiaaaW.PrintMore

theorem may_c (nm : ByteArray) (size : Int) (A : Option Addr) (c : Nat) (at_ : List Int) (n : Int) (w : World) (hr : Kd.C (Kd.int .i64) w A at_.length at_) (hc : at_.length ≤ c) (hl : at_.length ≤ 4611686018427387904) (hs : nm.size ≤ 1000) :
    Calls Try.prog 58 #[.agg #[.string nm, .int .i64 size, .slice A at_.length c], .int .i64 n] w fun e w' => e = .returned (.bool (mayB nm size at_ n)) ∧ Below w.heap.size w w' := by
  obtain ⟨k, h⟩ := (may_ev nm size at_ n hl (by omega)).rounds
  exact hanaperref12_May.calls k nm size A c at_ n _ w hr hc h
theorem rbits_c (A : Option Addr) (c : Nat) (at_ : List Int) (n : Int) (w : World) (hr : Kd.C (Kd.int .i64) w A at_.length at_) (hc : at_.length ≤ c) (hl : at_.length ≤ 4611686018427387904) :
    Calls Try.prog 59 #[.slice A at_.length c, .int .i64 n] w fun e w' => ∃ v, e = .returned (.tuple #[v, .bool (bitsSpec at_ n).2]) ∧ Ob w' w.heap.size v (bitsSpec at_ n).1 ∧ Below w.heap.size w w' := by
  obtain ⟨k, h⟩ := (bits_doc_ev at_ n hl).rounds
  exact hanaperref11_Bits.calls k A c at_ n _ _ w hr hc h
theorem rtext_n (A0 : Option Addr) (c0 n0 : Nat) (l : List Int) (w : World) (h0 : Rb w A0 l) (e0 : l.length = n0) (hc0 : n0 ≤ c0) (hn : n0 ≤ 100000) :
    Calls Try.prog 60 #[.slice A0 n0 c0] w (Makes w (textB l)) := by
  subst e0
  exact rtext_c A0 c0 l w h0 hc0 (by omega)

set_option maxHeartbeats 2000000 in
set_option maxRecDepth 100000 in
theorem rput_no (nm : ByteArray) (size : Int) (A : Option Addr) (c : Nat) (at_ : List Int) (n : Int) (w : World) (hr : Kd.C (Kd.int .i64) w A at_.length at_) (hc : at_.length ≤ c) (hl : at_.length ≤ 1000) (hm : mayB nm size at_ n = false) (hs : nm.size ≤ 1000) :
    Calls Try.prog 17 #[.agg #[.string nm, .int .i64 size, .slice A at_.length c], .int .i64 n] w fun e w' => e = .returned (.tuple #[.slice none 0 0, .int .i64 1]) ∧ Below w.heap.size w w' := by
  have hC := fun W (h : Below w.heap.size w W) => may_c nm size A c at_ n W (Kd.C_below hr h) hc (by omega) hs
  rw [hm] at hC
  have HC := Aside0.mk hC
  clear hC hr hc hl hm
  go_enter Try.func17, Try.ntmps17
  go_wp2_with (go_at_call 58; refine (HC.out _ (below_alloc (Below.refl _ _) _)).mono ?_; rintro e w1 ⟨rfl, hb⟩)
  go_ret2
  exact ⟨rfl, below_step (below_alloc (Below.refl _ _) _) hb⟩

set_option maxHeartbeats 2000000 in
set_option maxRecDepth 100000 in
theorem rput_yes (nm : ByteArray) (size : Int) (A : Option Addr) (c : Nat) (at_ : List Int) (n : Int) (w : World) (hr : Kd.C (Kd.int .i64) w A at_.length at_) (hc : at_.length ≤ c) (hl : at_.length ≤ 1000) (hm : mayB nm size at_ n = true) (hs : nm.size ≤ 1000) :
    Calls Try.prog 17 #[.agg #[.string nm, .int .i64 size, .slice A at_.length c], .int .i64 n] w fun e w' => ∃ v, e = .returned (.tuple #[v, .int .i64 0]) ∧ Ob w' w.heap.size v (putB nm size at_ n) ∧ Below w.heap.size w w' := by
  have hC := fun W (h : Below w.heap.size w W) => may_c nm size A c at_ n W (Kd.C_below hr h) hc (by omega) hs
  rw [hm] at hC
  have HC := Aside0.mk hC
  have hBt := fun W (h : Below w.heap.size w W) => rbits_c A c at_ n W (Kd.C_below hr h) hc (by omega)
  have hbl := bitsSpec_len at_ n
  obtain ⟨X, hX⟩ : ∃ X, (bitsSpec at_ n).1 = X := ⟨_, rfl⟩
  obtain ⟨P, hP⟩ : ∃ P, textB (bytesOf nm) ++ intB size ++ X = P := ⟨_, rfl⟩
  have hPP : putB nm size at_ n = P := by unfold putB; rw [hX, ← hP]; simp
  rw [hPP]
  rw [hX] at hBt hbl
  have HBt := Aside0.mk hBt
  have HBL := Aside0.mk hbl
  have HP := Aside0.mk hP
  have kb := fun W => print_bytes (P := Try.prog) 9 27 5 Try.underlying9 Try.underlying27 Try.underlying5 nm W
  have HS := Aside0.mk hs
  clear hC hBt hr hc hl hm hX hP hPP hbl
  go_enter Try.func17, Try.ntmps17
  go_wp2_with (go_at_call 58; refine (HC.out _ (below_alloc (Below.refl _ _) _)).mono ?_; rintro e w1 ⟨rfl, hb⟩; have HB := Aside0.mk (below_step (below_alloc (Below.refl _ _) _) hb); have hc0 : w1.cell? ⟨w.heap.size, 0, none⟩ = some (.string nm) := (hb.cell (p := ⟨w.heap.size, 0, none⟩) (by simp)).trans (by simp [World.cell?_alloc_new]); have hc1 : w1.cell? ⟨w.heap.size, 1, none⟩ = some (.int .i64 size) := (hb.cell (p := ⟨w.heap.size, 1, none⟩) (by simp)).trans (by simp [World.cell?_alloc_new]); have hc2 : w1.cell? ⟨w.heap.size, 2, none⟩ = some (.slice A at_.length c) := (hb.cell (p := ⟨w.heap.size, 2, none⟩) (by simp)).trans (by simp [World.cell?_alloc_new]); clear hb)
  refine (HBt.out _ HB.out).mono ?_
  rintro e w2 ⟨v, rfl, ho, hb⟩
  have d0 : w2.cell? ⟨w.heap.size, 0, none⟩ = some (.string nm) := (hb.cell (World.block_lt_of_cell? w1 _ hc0)).trans hc0
  have d1 : w2.cell? ⟨w.heap.size, 1, none⟩ = some (.int .i64 size) := (hb.cell (World.block_lt_of_cell? w1 _ hc1)).trans hc1
  have HB2 := Aside0.mk (below_step HB.out hb)
  obtain ⟨A3, c3, rfl, hl3, hr3⟩ := Ob.reads ho
  have HL3 := Aside0.mk hl3
  obtain ⟨bw, hbw⟩ : ∃ bw, Lib.bytesWorld w2.drew 5 nm = bw := ⟨_, rfl⟩
  have HTR := Aside0.mk (show Rb bw (some ⟨w2.drew.heap.size, 0, none⟩) (bytesOf nm) by
    rw [← hbw]
    have h := Kd.C_of_reads (d := (0 : Int)) (h1 := fun _ => rfl) (bytes_reads w2.drew 5 nm (by omega))
    show Kd.C _ _ _ (bytesOf nm).length (bytesOf nm)
    rw [bytesOf_length]
    exact h)
  have HBW := Aside0.mk (show Below w.heap.size w bw by rw [← hbw]; exact bytes_below (below_drew1 HB2.out) (below_drew1 HB2.out).size 5 nm)
  have HR3 := Aside0.mk (show Rb bw A3 X by rw [← hbw]; exact Kd.C_below (Kd.C_drew hr3) (bytes_below (Below.refl w2.drew.heap.size w2.drew) (Nat.le_refl _) 5 nm))
  have k0 : bw.cell? ⟨w.heap.size, 0, none⟩ = some (.string nm) := by rw [← hbw]; exact (Lib.bytesWorld_old w2.drew 5 nm _ (World.block_lt_of_cell? w2 _ d0)).trans d0
  have k1 : bw.cell? ⟨w.heap.size, 1, none⟩ = some (.int .i64 size) := by rw [← hbw]; exact (Lib.bytesWorld_old w2.drew 5 nm _ (World.block_lt_of_cell? w2 _ d1)).trans d1
  have kb2 := kb w2.drew
  rw [hbw] at kb2
  have HK0 := Aside0.mk k0
  have HK1 := Aside0.mk k1
  have HT := Aside0.mk (numB_len (n := ((bytesOf nm).length : Int)) (by rw [bytesOf_length]; omega))
  have HI := Aside0.mk (numB_len (n := IntKind.u64.wrap size) (u64_range size).2)
  have HNL := Aside0.mk (bytesOf_length nm)
  have HPL := Aside0.mk (show (textB (bytesOf nm)).length ≤ 1010 ∧ (intB size).length ≤ 9 by
    have h1 := HT.out
    have h2 := HI.out
    simp only [List.length_append, intB, textB, bytesOf_length] at *
    omega)
  clear ho hl3 hr3 hb hc0 hc1 hc2 HB HC HBt hs hbw kb
  go_wp2_with (fail)
  go_region_law (first
    | (go_simp; go_at_call 60; refine (rtext_n (some ⟨_, 0, none⟩) _ nm.size (bytesOf nm) _ HTR.out HNL.out (grown_le _ _ _ _) (by have := HS.out; omega)).mono ?_; rintro e w4 ⟨v4, rfl, ho, hb⟩; have m0 := (hb.cell (World.block_lt_of_cell? _ _ HK0.out)).trans HK0.out; have m1 := (hb.cell (World.block_lt_of_cell? _ _ HK1.out)).trans HK1.out; have HB4 := Aside0.mk hb; have HO4 := Aside0.mk ho; clear hb ho)
    | (go_simp; go_at_call 61; refine (rint_c size _).mono ?_; rintro e w5 ⟨v5, rfl, ho, hb⟩; have q0 := (hb.cell (World.block_lt_of_cell? _ _ m0)).trans m0; have q1 := (hb.cell (World.block_lt_of_cell? _ _ m1)).trans m1; have HB5 := Aside0.mk (below_step HB4.out hb); have HO5 := Aside0.mk (Kd.R_below HO4.out hb); clear hb; obtain ⟨A6, c6, rfl, hl_, hr_⟩ := Ob.reads ho; have HR6 := Aside0.mk hr_; have HL6 := Aside0.mk hl_; clear ho hl_ hr_)
    | (refine Kd.R_append_rows_step (Kd.int .u8) (w0 := bw) bw.heap.size rfl (.tmp 22) (.tmp 25) 27 5 (.int .u8 0) 1 rfl Try.underlying27 info_u8 rfl (by decide) (by omega) v4 (textB (bytesOf nm)) (intB size) _ _ _ (fun _ => True) (fun _ => False) rfl rfl HO5.out HR6.out (fun _ _ h => h) (fun _ h => h.elim) (fun _ _ => trivial) HB5.out HB5.out.size (by have := HPL.out; omega) ?_; intro v7 w7 ho hb hg hat; have HO7 := Aside0.mk ho; have HB7 := Aside0.mk hb; have r0 := (hb.cell (World.block_lt_of_cell? _ _ HK0.out)).trans HK0.out; have r1 := (hb.cell (World.block_lt_of_cell? _ _ HK1.out)).trans HK1.out; clear ho hb hg hat)
    | (refine Kd.R_append_rows_step (Kd.int .u8) (w0 := bw) bw.heap.size rfl (.tmp 26) (.tmp 27) 27 5 (.int .u8 0) 1 rfl Try.underlying27 info_u8 rfl (by decide) (by omega) v7 (textB (bytesOf nm) ++ intB size) X _ _ _ (fun _ => True) (fun _ => False) rfl rfl HO7.out (Kd.C_below HR3.out HB7.out) (fun _ _ h => h) (fun _ h => h.elim) (fun _ _ => trivial) HB7.out HB7.out.size (by have := HPL.out; have := HBL.out; rw [List.length_append]; omega) ?_; intro v8 w8 ho hb hg hat; rw [HP.out] at ho; have HO8 := Aside0.mk (Kd.R_lower ho HBW.out.size); have HB8 := Aside0.mk (below_step HBW.out hb); have s0 := (hb.cell (World.block_lt_of_cell? _ _ HK0.out)).trans HK0.out; have s1 := (hb.cell (World.block_lt_of_cell? _ _ HK1.out)).trans HK1.out; obtain ⟨A8, c8, rfl⟩ := Kd.R_slice ho; clear ho hb hg hat))
  all_goals
    go_wp2
    go_ret2
    exact ⟨_, rfl, HO8.out, HB8.out⟩
end Go.Proofs.Ytgdpabedlghiaaa.InodePut
/- The example of layer 12. -/
namespace Go.Proofs.Ytgdpabedlghiaaa.InodeLive
open Go.RowKit Go.Proofs.Ytgdpabedlghiaaa.Base Go.Proofs.Ytgdpabedlghiaaa.Name Go.Proofs.Ytgdpabedlghiaaa.InodeEv Go.Proofs.Ytgdpabedlghiaaa.InodePut Go.Proofs.Ytgdpabedlghiaaa.AllocEv Go.Proofs.Ytgdpabedlghiaaa.Lo Go.Proofs.Ytgdpabedlghiaaa.TlvPlain Go.Proofs.Ytgdpabedlghiaaa.Aid Go.Proofs.Ytgdpabedlghiaaa.PZ Go.Proofs.YtgdpabedlghiaaaW.PrintWords Go.Proofs.YtgdpabedlghiaaaW.PrintLast Go.Proofs.YtgdpabedlghiaaaW.PrintMore

theorem name_a : nameB ⟨#[97]⟩ = true := by decide +kernel
theorem name_b : nameB ⟨#[97, 45, 49, 46, 120]⟩ = true := by decide +kernel
theorem name_A : nameB ⟨#[65]⟩ = false := by decide +kernel
theorem bits_l : bitsSpec [2] 8 = ([32], true) := by decide +kernel
theorem may_l : mayB ⟨#[97]⟩ 1 [2] 8 = true := by
  unfold mayB
  rw [name_a, bits_l]
  decide +kernel
theorem textB_a : textB [97] = [1, 1, 97] := by
  unfold textB numB
  rw [show (([97] : List Int).length : Int).toNat = 1 from rfl, be_pos (by omega), show 1 / 256 = 0 from rfl, be_zero]; rfl
theorem intB_1 : intB 1 = [1, 1] := by
  unfold intB numB
  rw [show (IntKind.u64.wrap 1).toNat = 1 from rfl, be_pos (by omega), show 1 / 256 = 0 from rfl, be_zero]; rfl
theorem put_l : putB ⟨#[97]⟩ 1 [2] 8 = [1, 1, 97, 1, 1, 32] := by
  unfold putB
  rw [show bytesOf ⟨#[97]⟩ = [97] from rfl, textB_a, intB_1, bits_l]
  rfl
def putS (nm : ByteArray) (size : Int) (at_ : List Int) (n : Int) : List Int × Int := if mayB nm size at_ n = true then (putB nm size at_ n, 0) else ([], 1)
theorem put_c (nm : ByteArray) (size : Int) (A : Option Addr) (c : Nat) (at_ : List Int) (n : Int) (w : World) (hr : Kd.C (Kd.int .i64) w A at_.length at_) (hc : at_.length ≤ c) (hl : at_.length ≤ 1000) (hs : nm.size ≤ 1000) :
    Calls Try.prog 16 #[.agg #[.string nm, .int .i64 size, .slice A at_.length c], .int .i64 n] w fun e w' => ∃ v, e = .returned (.tuple #[v, .int .i64 (putS nm size at_ n).2]) ∧ Ob w' w.heap.size v (putS nm size at_ n).1 ∧ Below w.heap.size w w' := by
  unfold putS
  cases hm : mayB nm size at_ n with
  | true => exact put_yes nm size A c at_ n w hr hc hl hm hs
  | false =>
    refine (put_no nm size A c at_ n w hr hc hl hm).mono ?_
    rintro e w' ⟨rfl, hb⟩
    exact ⟨_, rfl, Kd.R_nil _ _ _ _ _, hb⟩
theorem rput_c (nm : ByteArray) (size : Int) (A : Option Addr) (c : Nat) (at_ : List Int) (n : Int) (w : World) (hr : Kd.C (Kd.int .i64) w A at_.length at_) (hc : at_.length ≤ c) (hl : at_.length ≤ 1000) (hs : nm.size ≤ 1000) :
    Calls Try.prog 17 #[.agg #[.string nm, .int .i64 size, .slice A at_.length c], .int .i64 n] w fun e w' => ∃ v, e = .returned (.tuple #[v, .int .i64 (putS nm size at_ n).2]) ∧ Ob w' w.heap.size v (putS nm size at_ n).1 ∧ Below w.heap.size w w' := by
  unfold putS
  cases hm : mayB nm size at_ n with
  | true => exact rput_yes nm size A c at_ n w hr hc hl hm hs
  | false =>
    refine (rput_no nm size A c at_ n w hr hc hl hm hs).mono ?_
    rintro e w' ⟨rfl, hb⟩
    exact ⟨_, rfl, Kd.R_nil _ _ _ _ _, hb⟩
theorem one_int (w : World) (x : Int) (T : Nat) : Kd.C (Kd.int .i64) (w.alloc (.cells #[.int .i64 x] T)) (some ⟨w.heap.size, 0, none⟩) 1 [x] := by
  refine Kd.C_of_reads (d := (0 : Int)) ⟨rfl, by omega, fun _ => ⟨_, rfl, fun j hj => ?_⟩⟩
  have h0 : j = 0 := by omega
  subst h0
  rw [show (⟨w.heap.size, 0, none⟩ : Addr).add 0 = ⟨w.heap.size, 0, none⟩ from rfl]
  simp [World.cell?_alloc_new]
theorem put_live (w : World) (T : Nat) :
    Calls Try.prog 16 #[.agg #[.string ⟨#[97]⟩, .int .i64 1, .slice (some ⟨w.heap.size, 0, none⟩) 1 1], .int .i64 8] (w.alloc (.cells #[.int .i64 2] T)) fun e w' => ∃ v, e = .returned (.tuple #[v, .int .i64 0]) ∧ Ob w' w.heap.size v [1, 1, 97, 1, 1, 32] ∧ Below w.heap.size w w' := by
  refine (put_yes ⟨#[97]⟩ 1 (some ⟨w.heap.size, 0, none⟩) 1 [2] 8 _ (one_int w 2 T) (by simp) (by simp) may_l (by decide)).mono ?_
  rintro e w' ⟨v, rfl, ho, hb⟩
  rw [put_l] at ho
  exact ⟨v, rfl, Kd.R_lower ho (by simp), below_step (below_alloc (Below.refl _ _) _) hb⟩
theorem num_c (a : Int) (w : World) : Calls Try.prog 19 #[.int .i64 a] w fun e w' => e = .returned (.int .i64 a) ∧ Drawn0 w w' := hanaperlaw12_num.calls a a w rfl

set_option maxHeartbeats 2000000 in
set_option maxRecDepth 100000 in
theorem live_c (w : World) : Calls Try.prog 15 #[] w fun e w' => e = .returned (.bool true) ∧ Below w.heap.size w w' := by
  have HN1 := Aside0.mk name_b
  have HN2 := Aside0.mk name_A
  go_enter Try.func15, Try.ntmps15
  go_wp2_with (fail)
  refine (put_live _ _).mono ?_
  rintro e w1 ⟨v, rfl, ho, hb⟩
  have HB := Aside0.mk hb
  clear hb
  obtain ⟨A1, c1, rfl, hl_, hr_⟩ := Ob.reads ho; have HR1 := Aside0.mk hr_; have HL1 := Aside0.mk hl_; clear ho hl_ hr_
  go_wp2_with (fail)
  refine (num_c _ _).mono ?_
  rintro e w2 ⟨rfl, hd⟩
  have hb := Drawn0.below hd
  have n1_ := Aside0.mk (below_step HB.out hb); clear HB; have HB := n1_; clear n1_
  have n2_ := Aside0.mk (Kd.C_below HR1.out hb); clear HR1; have HR1 := n2_; clear n2_
  clear hb hd
  go_wp2_with (first
    | ((with_reducible refine gate_dst (N := 14) rfl ?_); (try (refine gate_guard (by rfl) ?_; dsimp only)); refine lit_bytes (N := 14) ?hg ?hd [1, 1, 97, 1, 1, 32] [.int .u8 (1), .int .u8 (1), .int .u8 (97), .int .u8 (1), .int .u8 (1), .int .u8 (32)] rfl ?hr (by simp) ?_; (case hd => rfl); (case hg => rfl); (case hr => first | (go_simp; done) | (go_simp; rfl)); intro v w1 ho hb; have n1_ := Aside0.mk (below_step HB.out hb); clear HB; have HB := n1_; clear n1_; have n2_ := Aside0.mk (Kd.C_below HR1.out hb); clear HR1; have HR1 := n2_; clear n2_; clear hb; obtain ⟨A2, c2, rfl, hl_, hr_⟩ := Ob.reads ho; have HR2 := Aside0.mk hr_; have HL2 := Aside0.mk hl_; clear ho hl_ hr_)
    | (go_at_call 18; refine (Same0.same_t A1 c1 6 [1, 1, 97, 1, 1, 32] A2 c2 6 [1, 1, 97, 1, 1, 32] _ HR1.out rfl HL1.out HR2.out rfl HL2.out (by simp) rfl).mono ?_; rintro e w5 ⟨rfl, hd⟩; have hb := Drawn0.below hd; clear hd HR1 HR2 HL1 HL2; have n1_ := Aside0.mk (below_step HB.out hb); clear HB; have HB := n1_; clear n1_; clear hb))
  go_wp2_with (fail)
  refine (name_c ⟨#[97, 45, 49, 46, 120]⟩ _).mono ?_
  rintro e w6 ⟨rfl, hb⟩
  rw [HN1.out]
  have n1_ := Aside0.mk (below_step HB.out hb); clear HB; have HB := n1_; clear n1_
  clear hb
  go_wp2_with (fail)
  refine (name_c ⟨#[65]⟩ _).mono ?_
  rintro e w7 ⟨rfl, hb⟩
  rw [HN2.out]
  have n1_ := Aside0.mk (below_step HB.out hb); clear HB; have HB := n1_; clear n1_
  clear hb
  go_wp2
  go_ret
  exact ⟨rfl, HB.out⟩
end Go.Proofs.Ytgdpabedlghiaaa.InodeLive
/- InodePuts: the law's walk. -/
namespace Go.Proofs.Ytgdpabedlghiaaa.InodePuts
open Go.RowKit Go.Proofs.Ytgdpabedlghiaaa.Base Go.Proofs.Ytgdpabedlghiaaa.Name Go.Proofs.Ytgdpabedlghiaaa.InodeEv Go.Proofs.Ytgdpabedlghiaaa.InodePut Go.Proofs.Ytgdpabedlghiaaa.InodeLive Go.Proofs.Ytgdpabedlghiaaa.AllocEv Go.Proofs.Ytgdpabedlghiaaa.Aid Go.Proofs.Ytgdpabedlghiaaa.PZ Go.Proofs.YtgdpabedlghiaaaW.PrintWords Go.Proofs.YtgdpabedlghiaaaW.PrintLast Go.Proofs.YtgdpabedlghiaaaW.PrintMore

abbrev D : Kd (ByteArray × Int × List Int) := Kd.pair Kd.string (Kd.pair (Kd.int .i64) (Kd.slice 3 (Kd.int .i64)))
theorem huge_v (nm : ByteArray) (size : Int) (at_ : List Int) (n : Int) : ∃ h, hanaperlaw12_huge.f nm size at_ n = some h ∧ (h = false → nm.size ≤ 200 ∧ at_.length ≤ 200) := by
  unfold hanaperlaw12_huge.f
  by_cases h1 : (nm.size : Int) > 200
  · rw [if_pos h1]; exact ⟨true, rfl, fun h => by cases h⟩
  · rw [if_neg h1]
    by_cases h2 : (at_.length : Int) > 200
    · rw [if_pos h2]; exact ⟨true, rfl, fun h => by cases h⟩
    · rw [if_neg h2]
      split
      · exact ⟨_, rfl, fun _ => ⟨by omega, by omega⟩⟩
      · exact ⟨_, rfl, fun _ => ⟨by omega, by omega⟩⟩
theorem numB_len' (nm : ByteArray) (hs : nm.size ≤ 1000) : (Lo.textB (bytesOf nm)).length ≤ 1010 := by
  have h := Lo.numB_len (n := ((bytesOf nm).length : Int)) (by rw [bytesOf_length]; omega)
  unfold Lo.textB
  rw [List.length_append]
  have h2 := bytesOf_length nm
  omega
theorem putS_len (nm : ByteArray) (size : Int) (at_ : List Int) (n : Int) (hs : nm.size ≤ 1000) : (putS nm size at_ n).1.length ≤ 4611686018427387904 := by
  unfold putS
  split
  · have h1 := numB_len' nm hs
    have h2 := Lo.numB_len (n := IntKind.u64.wrap size) (Lo.u64_range size).2
    have h3 := bitsSpec_len at_ n
    unfold putB
    simp only [List.flatten_cons, List.flatten_nil, List.append_nil, List.length_append, Lo.intB]
    omega
  · exact Nat.zero_le _

set_option maxHeartbeats 2000000 in
set_option maxRecDepth 100000 in
theorem early (w : World) (nm : ByteArray) (size : Int) (A : Option Addr) (c : Nat) (at_ : List Int) (n : Int) (s : ByteArray) (hr : Kd.C (Kd.int .i64) w A at_.length at_) (hc : at_.length ≤ c) (hh : hanaperlaw12_huge.f nm size at_ n = some true ∨ (hanaperlaw12_huge.f nm size at_ n = some false ∧ 200 < s.size)) :
    Calls Try.prog 3 #[.agg #[.string nm, .int .i64 size, .slice A at_.length c], .int .i64 n, .string s] w fun e w' => e = .returned (.bool true) ∧ Below w.heap.size w w' := by
  have HB0 := Aside0.mk (below_alloc (Below.refl w.heap.size w) (.cells #[.string nm, .int .i64 size, .slice A at_.length c] 24))
  have HR := Aside0.mk hr
  have HC := Aside0.mk hc
  clear hr hc
  rcases hh with hh | ⟨hh, hs⟩
  · have HH := Aside0.mk hh
    clear hh
    go_enter Try.func3, Try.ntmps3
    go_wp2_with (first
      | (go_at_call 14; refine (hanaperlaw12_huge.calls nm size A c at_ n true _ (Kd.C_below HR.out HB0.out) HC.out HH.out).mono ?_; rintro e w1 ⟨rfl, hb⟩; have HB := Aside0.mk (below_step HB0.out hb); clear hb)
      | (go_at_call 15; refine (InodeLive.live_c _).mono ?_; rintro e w2 ⟨rfl, hb⟩; have HF := Aside0.mk (below_step HB.out hb); clear hb))
    go_ret
    exact ⟨rfl, HF.out⟩
  · have HH := Aside0.mk hh
    have hd1 : decide (200 < s.size) = true := decide_eq_true hs
    have hd2 : decide ((200 : Int) < (s.size : Int)) = true := decide_eq_true (by omega)
    clear hh hs
    go_enter Try.func3, Try.ntmps3
    go_wp2_with (first
      | (go_at_call 14; refine (hanaperlaw12_huge.calls nm size A c at_ n false _ (Kd.C_below HR.out HB0.out) HC.out HH.out).mono ?_; rintro e w1 ⟨rfl, hb⟩; have HB := Aside0.mk (below_step HB0.out hb); clear hb)
      | (go_at_call 15; refine (InodeLive.live_c _).mono ?_; rintro e w2 ⟨rfl, hb⟩; have HF := Aside0.mk (below_step HB.out hb); clear hb))
    go_ret
    exact ⟨rfl, HF.out⟩

set_option maxHeartbeats 2000000 in
set_option maxRecDepth 100000 in
theorem main (w : World) (nm : ByteArray) (size : Int) (A : Option Addr) (c : Nat) (at_ : List Int) (n : Int) (s : ByteArray) (hr : Kd.C (Kd.int .i64) w A at_.length at_) (hc : at_.length ≤ c) (hh : hanaperlaw12_huge.f nm size at_ n = some false) (hs : s.size ≤ 200) (hn : nm.size ≤ 200) (ha : at_.length ≤ 200) :
    Calls Try.prog 3 #[.agg #[.string nm, .int .i64 size, .slice A at_.length c], .int .i64 n, .string s] w fun e w' => e = .returned (.bool true) ∧ Below w.heap.size w w' := by
  have HR := Aside0.mk hr
  have HC := Aside0.mk hc
  have HH := Aside0.mk hh
  have HN := Aside0.mk hn
  have HA := Aside0.mk ha
  have HSZ := Aside0.mk hs
  have hpl := putS_len nm size at_ n (by omega)
  obtain ⟨P, er, hP⟩ : ∃ P er, putS nm size at_ n = (P, er) := ⟨_, _, rfl⟩
  rw [hP] at hpl
  have HPL := Aside0.mk hpl
  have HP := Aside0.mk hP
  have hck : (if mayB nm size at_ n = true then (0 : Int) else 1) = er := by
    have := congrArg Prod.snd hP
    have e : (P, er).snd = er := rfl
    unfold putS at this
    rw [e] at this
    rw [← this]
    split <;> rfl
  have HCK := Aside0.mk hck
  obtain ⟨nb, hnb⟩ : ∃ nb, nameB s = nb := ⟨_, rfl⟩
  have HNB := Aside0.mk hnb
  have hd1 : decide (200 < s.size) = false := decide_eq_false (by omega)
  have hd2 : decide ((200 : Int) < (s.size : Int)) = false := decide_eq_false (by omega)
  have hee : (er == er) = true := by simp
  have hnn : (nb == nb) = true := by cases nb <;> rfl
  obtain ⟨w0, hw0⟩ : ∃ w0, w.alloc (.cells #[.string nm, .int .i64 size, .slice A at_.length c] 24) = w0 := ⟨_, rfl⟩
  have HB := Aside0.mk (show Below w.heap.size w w0 by rw [← hw0]; exact below_alloc (Below.refl w.heap.size w) _)
  have a0 : w0.cell? ⟨w.heap.size, 0, none⟩ = some (.string nm) := by rw [← hw0]; simp [World.cell?_alloc_new]
  have a1 : w0.cell? ⟨w.heap.size, 1, none⟩ = some (.int .i64 size) := by rw [← hw0]; simp [World.cell?_alloc_new]
  have a2 : w0.cell? ⟨w.heap.size, 2, none⟩ = some (.slice A at_.length c) := by rw [← hw0]; simp [World.cell?_alloc_new]
  have HW0 := Aside0.mk hw0
  clear hr hc hh hs hn ha hpl hP hck hnb hw0
  go_enter Try.func3, Try.ntmps3
  go_wp2_with (fail)
  rw [HW0.out]
  refine (hanaperlaw12_huge.calls nm size A c at_ n false _ (Kd.C_below HR.out HB.out) HC.out HH.out).mono ?_
  rintro e w1 ⟨rfl, hb⟩
  have b0 := (hb.cell (World.block_lt_of_cell? _ _ a0)).trans a0
  clear a0
  have a0 := b0
  clear b0
  have b1 := (hb.cell (World.block_lt_of_cell? _ _ a1)).trans a1
  clear a1
  have a1 := b1
  clear b1
  have b2 := (hb.cell (World.block_lt_of_cell? _ _ a2)).trans a2
  clear a2
  have a2 := b2
  clear b2
  have n1_ := Aside0.mk (below_step HB.out hb); clear HB; have HB := n1_; clear n1_
  clear hb
  go_wp2_with (fail)
  refine (put_c nm size A c at_ n _ (Kd.C_below HR.out HB.out) HC.out (by have := HA.out; omega) (by have := HN.out; omega)).mono ?_
  rintro e w2 ⟨v, rfl, ho, hb⟩
  rw [HP.out] at ho ⊢
  have b0 := (hb.cell (World.block_lt_of_cell? _ _ a0)).trans a0
  clear a0
  have a0 := b0
  clear b0
  have b1 := (hb.cell (World.block_lt_of_cell? _ _ a1)).trans a1
  clear a1
  have a1 := b1
  clear b1
  have b2 := (hb.cell (World.block_lt_of_cell? _ _ a2)).trans a2
  clear a2
  have a2 := b2
  clear b2
  have n1_ := Aside0.mk (below_step HB.out hb); clear HB; have HB := n1_; clear n1_
  clear hb
  obtain ⟨A1, c1, rfl, hl_, hr_⟩ := Ob.reads ho; have HR1 := Aside0.mk hr_; have HL1 := Aside0.mk hl_; clear ho hl_ hr_
  go_wp2_with (fail)
  refine (rput_c nm size A c at_ n _ (Kd.C_below HR.out HB.out) HC.out (by have := HA.out; omega) (by have := HN.out; omega)).mono ?_
  rintro e w3 ⟨v, rfl, ho, hb⟩
  rw [HP.out] at ho ⊢
  have b0 := (hb.cell (World.block_lt_of_cell? _ _ a0)).trans a0
  clear a0
  have a0 := b0
  clear b0
  have b1 := (hb.cell (World.block_lt_of_cell? _ _ a1)).trans a1
  clear a1
  have a1 := b1
  clear b1
  have b2 := (hb.cell (World.block_lt_of_cell? _ _ a2)).trans a2
  clear a2
  have a2 := b2
  clear b2
  have n1_ := Aside0.mk (below_step HB.out hb); clear HB; have HB := n1_; clear n1_
  have n2_ := Aside0.mk (Kd.C_below HR1.out hb); clear HR1; have HR1 := n2_; clear n2_
  clear hb
  obtain ⟨A2, c2, rfl, hl_, hr_⟩ := Ob.reads ho; have HR2 := Aside0.mk hr_; have HL2 := Aside0.mk hl_; clear ho hl_ hr_
  go_wp2_with (fail)
  refine (Same0.same_t A1 c1 P.length P A2 c2 P.length P _ HR1.out rfl HL1.out HR2.out rfl HL2.out HPL.out rfl).mono ?_
  rintro e w4 ⟨rfl, hd⟩
  have hb := Drawn0.below hd
  have b0 := (hb.cell (World.block_lt_of_cell? _ _ a0)).trans a0
  clear a0
  have a0 := b0
  clear b0
  have b1 := (hb.cell (World.block_lt_of_cell? _ _ a1)).trans a1
  clear a1
  have a1 := b1
  clear b1
  have b2 := (hb.cell (World.block_lt_of_cell? _ _ a2)).trans a2
  clear a2
  have a2 := b2
  clear b2
  have n1_ := Aside0.mk (below_step HB.out hb); clear HB; have HB := n1_; clear n1_
  clear hb hd HR1 HR2 HL1 HL2
  go_wp2_with (fail)
  refine (num_c _ _).mono ?_
  rintro e w5 ⟨rfl, hd⟩
  have hb := Drawn0.below hd
  have b0 := (hb.cell (World.block_lt_of_cell? _ _ a0)).trans a0
  clear a0
  have a0 := b0
  clear b0
  have b1 := (hb.cell (World.block_lt_of_cell? _ _ a1)).trans a1
  clear a1
  have a1 := b1
  clear b1
  have b2 := (hb.cell (World.block_lt_of_cell? _ _ a2)).trans a2
  clear a2
  have a2 := b2
  clear b2
  have n1_ := Aside0.mk (below_step HB.out hb); clear HB; have HB := n1_; clear n1_
  clear hb hd
  go_wp2_with (fail)
  refine (check_c nm size A c at_ n _ (Kd.C_below HR.out HB.out) HC.out (by have := HA.out; omega)).mono ?_
  rintro e w6 ⟨rfl, hb⟩
  rw [HCK.out]
  have n1_ := Aside0.mk (below_step HB.out hb); clear HB; have HB := n1_; clear n1_
  clear hb a0 a1 a2
  go_wp2_with (fail)
  refine (num_c _ _).mono ?_
  rintro e w7 ⟨rfl, hd⟩
  have hb := Drawn0.below hd
  have n1_ := Aside0.mk (below_step HB.out hb); clear HB; have HB := n1_; clear n1_
  clear hb hd
  go_wp2_with (fail)
  refine (name_c s _).mono ?_
  rintro e w8 ⟨rfl, hb⟩
  rw [HNB.out]
  have n1_ := Aside0.mk (below_step HB.out hb); clear HB; have HB := n1_; clear n1_
  clear hb
  go_wp2_with (fail)
  refine (rname_c s _ (by have := HSZ.out; omega)).mono ?_
  rintro e w9 ⟨rfl, hd⟩
  rw [HNB.out]
  have hb := Drawn0.below hd
  have n1_ := Aside0.mk (below_step HB.out hb); clear HB; have HB := n1_; clear n1_
  clear hb hd
  go_wp2_with (go_at_call 15; refine (InodeLive.live_c _).mono ?_; rintro e w10 ⟨rfl, hb⟩; have HF := Aside0.mk (below_step HB.out hb); clear hb)
  go_ret
  exact ⟨rfl, HF.out⟩
theorem walk (w : World) (x : ByteArray × Int × List Int) (cs : Array Value) (hK : D.K w x cs.toList) (_ : x.1.size ≤ maxLen ∧ (Lit.int .i64 x.2.1).wf = true ∧ ∀ y ∈ x.2.2, (Lit.int .i64 y).wf = true) (n : Int) (_ : (Lit.int .i64 n).wf = true) (s : ByteArray) (_ : s.size ≤ maxLen) :
    Calls Try.prog 3 #[.agg cs, .int .i64 n, .string s] w fun e w' => e = .returned (.bool true) ∧ Below w.heap.size w w' := by
  obtain ⟨nm, size, at_⟩ := x
  obtain ⟨_, _, e0, rfl, _, _, e1, rfl, ⟨A, c, rfl, hc, hr⟩⟩ := hK
  subst e1
  have e : cs = #[.string nm, .int .i64 size, .slice A at_.length c] := Array.toList_inj.1 e0
  subst e
  obtain ⟨h, hh, hsmall⟩ := huge_v nm size at_ n
  cases h with
  | true => exact early w nm size A c at_ n s hr hc (.inl hh)
  | false =>
    by_cases h2 : 200 < s.size
    · exact early w nm size A c at_ n s hr hc (.inr ⟨hh, h2⟩)
    · exact main w nm size A c at_ n s hr hc hh (by omega) (hsmall rfl).1 (hsmall rfl).2
end Go.Proofs.Ytgdpabedlghiaaa.InodePuts
/- What an argument reads as, opened kind by kind: out of the form's reading a value of the kind, whose cells it has. -/
namespace Go.Proofs.Ytgdpabedlghiaaa.Open
open Go.Proofs.Ytgdpabedlghiaaa.Base Go.RowKit Go.Proofs.YtgdpabedlghiaaaW.PrintWords Go.Proofs.YtgdpabedlghiaaaW.PrintLast Go.Proofs.YtgdpabedlghiaaaW.PrintMore

/-- With so much fuel, what type t reads as is a value of kind d. -/
def OpensN (P : Program) (n : Nat) (t : TypeId) {α : Type} (d : Kd α) (ok : α → Prop) : Prop :=
  ∀ (H : Type) (enc : TypeId × Value → H) (w : World) (base : Nat) (held : Bool) (cs : List Value) (x : DataW H × List MemPlace), DataW.trod enc P w base (fun _ => true) held n t cs = some x → ∃ v, d.K w v cs ∧ ok v
def Opens (P : Program) (t : TypeId) {α : Type} (d : Kd α) (ok : α → Prop) : Prop := ∀ n, OpensN P n t d ok

theorem opens_int {P : Program} {t : TypeId} {k : IntKind} (ht : P.underlying t = some (.int k)) : Opens P t (Kd.int k) (fun v => (Lit.int k v).wf = true) := by
  intro n H enc w base held cs x h
  obtain ⟨v, rfl, hw, _⟩ : ∃ v, cs = [.int k v] ∧ (Lit.int k v).wf = true ∧ True := by
    cases n with
    | zero => simp [DataW.trod] at h
    | succ n =>
      unfold DataW.trod at h
      rw [ht] at h
      split at h <;> simp_all
  exact ⟨v, rfl, hw⟩
theorem opens_bool {P : Program} {t : TypeId} (ht : P.underlying t = some .bool) : Opens P t Kd.bool (fun _ => True) := by
  intro n H enc w base held cs x h
  obtain ⟨v, rfl⟩ : ∃ v, cs = [.bool v] := by
    cases n with
    | zero => simp [DataW.trod] at h
    | succ n =>
      unfold DataW.trod at h
      rw [ht] at h
      split at h <;> simp_all
  exact ⟨v, rfl, trivial⟩
theorem opens_string {P : Program} {t : TypeId} (ht : P.underlying t = some .string) : Opens P t Kd.string (fun s => s.size ≤ maxLen) := by
  intro n H enc w base held cs x h
  obtain ⟨v, rfl, hv⟩ : ∃ v, cs = [.string v] ∧ v.size ≤ maxLen := by
    cases n with
    | zero => simp [DataW.trod] at h
    | succ n =>
      unfold DataW.trod at h
      rw [ht] at h
      split at h <;> simp_all
  exact ⟨v, rfl, hv⟩
theorem choose_list {α : Type} {p : Nat → α → Prop} : ∀ n, (∀ i, i < n → ∃ v, p i v) → ∃ xs : List α, xs.length = n ∧ ∀ i v, xs[i]? = some v → p i v := by
  intro n
  induction n with
  | zero => intro _; exact ⟨[], rfl, fun i v h => by simp at h⟩
  | succ n ih =>
    intro h
    obtain ⟨xs, hl, hx⟩ := ih (fun i hi => h i (by omega))
    obtain ⟨v, hv⟩ := h n (by omega)
    refine ⟨xs ++ [v], by simp [hl], fun i u hu => ?_⟩
    rcases Nat.lt_or_ge i xs.length with hi | hi
    · rw [List.getElem?_append_left hi] at hu; exact hx i u hu
    · have hi' : i = n := by
        have := (List.getElem?_eq_some_iff.1 hu).1
        rw [List.length_append, List.length_singleton] at this
        omega
      subst hi'
      have : v = u := by rw [← hl] at hu; simpa using hu
      subst this
      exact hv
theorem opensN_slice {P : Program} {n : Nat} {t e : TypeId} {α : Type} {d : Kd α} {ok : α → Prop} (ht : P.underlying t = some (.slice e)) (hc : P.cellsOf e = d.sz) (hd : OpensN P n e d ok) : OpensN P (n + 1) t (Kd.slice e d) (fun xs => ∀ x ∈ xs, ok x) := by
  intro H enc w base held cs x h
  rcases DataW.trod_slice ht h with ⟨rfl, _⟩ | ⟨a, len, cap, elems, rest, m, hm, rfl, _, hb, hl, hmx, hel, hi, _⟩
  · exact ⟨[], ⟨none, 0, rfl, by simp, Kd.C_nil _ _⟩, fun x hx => by cases hx⟩
  · have hmn : m = n := by omega
    subst hmn
    obtain ⟨xs, hxl, hxs⟩ := choose_list (α := α) (p := fun i v => ok v ∧ ∃ c, c.length = d.sz ∧ d.K w v c ∧ ∀ j u, c[j]? = some u → w.cell? (a.add (i * d.sz + j)) = some u) len (fun i hil => by
      have h1 := hi i hil
      rw [List.getElem?_eq_getElem (by omega)] at h1
      obtain ⟨cs', h2, h3⟩ := Option.bind_eq_some_iff.1 h1
      obtain ⟨v, hv, hok⟩ := hd _ _ _ _ _ _ _ h3
      obtain ⟨_, h4, h5⟩ := World.cells?_some h2
      refine ⟨v, hok, cs', by rw [h4, hc], hv, fun j u hu => ?_⟩
      have hj : j < cs'.length := (List.getElem?_eq_some_iff.1 hu).1
      have h6 := h5 j (by omega)
      rw [hu, hc] at h6
      rw [← h6, Addr.add_add])
    refine ⟨xs, ⟨some a, cap, by rw [hxl], by omega, ?_⟩, fun x hx => ?_⟩
    · refine ⟨rfl, ?_, fun _ => ⟨a, rfl, fun j p hj => ?_⟩⟩
      · rw [hxl]; simp only [maxLen] at hmx; omega
      · exact (hxs j p hj).2
    · obtain ⟨i, hi, rfl⟩ := List.mem_iff_getElem.1 hx
      exact (hxs i _ (List.getElem?_eq_getElem hi)).1
theorem opens_slice {P : Program} {t e : TypeId} {α : Type} {d : Kd α} {ok : α → Prop} (ht : P.underlying t = some (.slice e)) (hc : P.cellsOf e = d.sz) (hd : Opens P e d ok) : Opens P t (Kd.slice e d) (fun xs => ∀ x ∈ xs, ok x) := by
  intro n
  cases n with
  | zero => intro H enc w base held cs x h; simp [DataW.trod] at h
  | succ n => exact opensN_slice ht hc (hd n)
/-- The fields of a struct from offset o on. -/
def OpensF (P : Program) (n : Nat) (fs : List Field) (o : Nat) {α : Type} (d : Kd α) (ok : α → Prop) : Prop :=
  ∀ (H : Type) (enc : TypeId × Value → H) (w : World) (base : Nat) (held : Bool) (cs : List Value) (xs : List (DataW H × List MemPlace)),
    cs.length = o + d.sz → fs.mapM (fun f => DataW.trod enc P w base (fun _ => true) held n f.type ((cs.drop f.offset).take (P.cellsOf f.type))) = some xs → ∃ v, d.K w v (cs.drop o) ∧ ok v
theorem opensF_one {P : Program} {n : Nat} {f : Field} {o : Nat} {α : Type} {d : Kd α} {ok : α → Prop} (ho : f.offset = o) (hc : P.cellsOf f.type = d.sz) (hd : OpensN P n f.type d ok) : OpensF P n [f] o d ok := by
  intro H enc w base held cs xs hl h
  have h1 := mapM_some_get h 0 f rfl
  cases hx : xs[0]? with
  | none => rw [List.getElem?_eq_none_iff] at hx; have := mapM_some_length h; simp at this; omega
  | some y =>
    rw [hx, ho, List.take_of_length_le (by rw [List.length_drop]; omega)] at h1
    exact hd _ _ _ _ _ _ _ h1
theorem opensF_cons {P : Program} {n : Nat} {f : Field} {fs : List Field} {o : Nat} {α β : Type} {d : Kd α} {d2 : Kd β} {ok : α → Prop} {ok2 : β → Prop} (ho : f.offset = o) (hc : P.cellsOf f.type = d.sz) (hd : OpensN P n f.type d ok) (hr : OpensF P n fs (o + d.sz) d2 ok2) : OpensF P n (f :: fs) o (Kd.pair d d2) (fun v => ok v.1 ∧ ok2 v.2) := by
  intro H enc w base held cs xs hl h
  rw [List.mapM_cons] at h
  obtain ⟨y, h1, h2⟩ := Option.bind_eq_some_iff.1 h
  obtain ⟨ys, h3, h4⟩ := Option.bind_eq_some_iff.1 h2
  have hsz : (Kd.pair d d2).sz = d.sz + d2.sz := rfl
  rw [ho, hc] at h1
  obtain ⟨v1, k1, o1⟩ := hd _ _ _ _ _ _ _ h1
  obtain ⟨v2, k2, o2⟩ := hr _ _ _ _ _ _ _ (by rw [hl, hsz]; omega) h3
  refine ⟨(v1, v2), ⟨(cs.drop o).take d.sz, cs.drop (o + d.sz), ?_, k1, k2⟩, o1, o2⟩
  rw [← List.drop_drop, List.take_append_drop]
theorem opensN_struct {P : Program} {n : Nat} {t : TypeId} {fs : Array Field} {α : Type} {d : Kd α} {ok : α → Prop} (ht : P.underlying t = some (.struct fs)) (hc : P.cellsOf t = d.sz) (hd : OpensF P n fs.toList 0 d ok) : OpensN P (n + 1) t d ok := by
  intro H enc w base held cs x h
  unfold DataW.trod at h
  rw [ht] at h
  have h' : (if cs.length = P.cellsOf t then (fs.toList.mapM fun f => DataW.trod enc P w base (fun _ => true) held n f.type ((cs.drop f.offset).take (P.cellsOf f.type))).map fun xs => (DataW.agg (xs.map (·.1)), xs.flatMap (·.2)) else none) = some x := by
    revert h
    split <;> simp_all
  split at h'
  · next hl =>
    obtain ⟨xs, h1, _⟩ := Option.map_eq_some_iff.1 h'
    have := hd _ _ _ _ _ _ _ (by rw [hl, hc]; omega) h1
    simpa using this
  · cases h'
theorem opens_struct {P : Program} {t : TypeId} {fs : Array Field} {α : Type} {d : Kd α} {ok : α → Prop} (ht : P.underlying t = some (.struct fs)) (hc : P.cellsOf t = d.sz) (hd : ∀ n, OpensF P n fs.toList 0 d ok) : Opens P t d ok := by
  intro n
  cases n with
  | zero => intro H enc w base held cs x h; simp [DataW.trod] at h
  | succ n => exact opensN_struct ht hc (hd n)
theorem opensN_iso {P : Program} {n : Nat} {t : TypeId} {α β : Type} {d : Kd α} {ok : α → Prop} (f : β → α) (g : α → β) (hg : ∀ a, f (g a) = a) (hd : OpensN P n t d ok) : OpensN P n t (Kd.iso d f) (fun b => ok (f b)) := by
  intro H enc w base held cs x h
  obtain ⟨v, hk, ho⟩ := hd _ _ _ _ _ _ _ h
  exact ⟨g v, by show d.K w (f (g v)) cs; rw [hg]; exact hk, by show ok (f (g v)); rw [hg]; exact ho⟩
theorem opens_iso {P : Program} {t : TypeId} {α β : Type} {d : Kd α} {ok : α → Prop} (f : β → α) (g : α → β) (hg : ∀ a, f (g a) = a) (hd : Opens P t d ok) : Opens P t (Kd.iso d f) (fun b => ok (f b)) := fun n => opensN_iso f g hg (hd n)
theorem opens_ok {P : Program} {t : TypeId} {α : Type} {d : Kd α} {ok ok' : α → Prop} (hd : Opens P t d ok) (h : ∀ v, ok v → ok' v) : Opens P t d ok' := by
  intro n H enc w base held cs x hx
  obtain ⟨v, hk, ho⟩ := hd n _ _ _ _ _ _ _ hx
  exact ⟨v, hk, h v ho⟩
/-- An argument, opened. -/
theorem Opens.arg {P : Program} {t : TypeId} {α : Type} {d : Kd α} {ok : α → Prop} (h : Opens P t d ok) {H : Type} {enc : TypeId × Value → H} {w : World} {base : Nat} {held : Bool} {v : Value} {D : DataW H} {ps : List MemPlace} (ht : DataW.Trod enc P w base (fun _ => true) held t v D ps) : ∃ x, d.K w x v.cells.toList ∧ ok x := by
  obtain ⟨n, hn⟩ := ht
  exact h n _ _ _ _ _ _ _ hn
end Go.Proofs.Ytgdpabedlghiaaa.Open
