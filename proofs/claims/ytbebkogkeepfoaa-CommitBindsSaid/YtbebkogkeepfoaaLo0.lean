import Derived.Test.YtbebkogkeepfoaaAid
import Derived.Test.YtbebkogkeepfoaaTlvPlain
import Derived.Test.YtbebkogkeepfoaaPZxFtlvNum
import Derived.Test.YtbebkogkeepfoaaPZxFtlvText
import Derived.Test.YtbebkogkeepfoaaPZxFtlvInt
import Derived.Test.YtbebkogkeepfoaaPZxFhanaperref01Num
import Derived.Test.YtbebkogkeepfoaaPZxFhanaperref01Text
import Derived.Test.YtbebkogkeepfoaaPZxFhanaperref01Int
import Derived.Test.YtbebkogkeepfoaaPZxFhanaperref01Same
/- What the lowest functions come to: numbers and texts as bytes, lists that are the same. -/
namespace Go.Proofs.Ytbebkogkeepfoaa.Lo
open Go.Proofs.Ytbebkogkeepfoaa.Base Go.Proofs.Ytbebkogkeepfoaa.TlvPlain Go.Proofs.Ytbebkogkeepfoaa.Aid Go.RowKit Go.Proofs.YtbebkogkeepfoaaW.PrintWords Go.Proofs.YtbebkogkeepfoaaW.PrintLast Go.Proofs.YtbebkogkeepfoaaW.PrintMore Go.Proofs.Ytbebkogkeepfoaa.PZ

/-- A number's bytes, the highest first. -/
def be (n : Nat) : List Int := if n = 0 then [] else be (n / 256) ++ [((n % 256 : Nat) : Int)]
termination_by n
decreasing_by omega
def numB (n : Int) : List Int := ((be n.toNat).length : Int) :: be n.toNat
def textB (l : List Int) : List Int := numB l.length ++ l
def intB (n : Int) : List Int := numB (IntKind.u64.wrap n)
theorem be_zero : be 0 = [] := by unfold be; rfl
theorem be_pos {n : Nat} (h : 0 < n) : be n = be (n / 256) ++ [((n % 256 : Nat) : Int)] := by
  rw [be, if_neg (by omega)]
theorem be_len {k : Nat} : ∀ {n : Nat}, n < 256 ^ k → (be n).length ≤ k := by
  induction k with
  | zero => intro n h; have : n = 0 := by omega
            subst this; rw [be_zero]; simp
  | succ k ih =>
    intro n h
    by_cases h0 : n = 0
    · subst h0; rw [be_zero]; simp
    · rw [be_pos (by omega), List.length_append, List.length_singleton]
      have := ih (n := n / 256) (by rw [Nat.pow_succ] at h; omega)
      omega
theorem be_u8 (n : Nat) : U8 (be n) := by
  induction n using Nat.strongRecOn with
  | ind n ih =>
    by_cases h0 : n = 0
    · subst h0; rw [be_zero]; exact U8.nil
    · rw [be_pos (by omega)]
      refine (ih (n / 256) (by omega)).append (U8.cons ?_ U8.nil)
      omega
theorem be_value (n : Nat) : valueB (be n) = n := by
  induction n using Nat.strongRecOn with
  | ind n ih =>
    by_cases h0 : n = 0
    · subst h0; rw [be_zero]; rfl
    · rw [be_pos (by omega), valueB_snoc, ih (n / 256) (by omega)]
      omega
theorem be_head (n : Nat) (h : 0 < n) : ∃ x xs, be n = x :: xs ∧ 0 < x := by
  induction n using Nat.strongRecOn with
  | ind n ih =>
    rw [be_pos h]
    by_cases h0 : n / 256 = 0
    · rw [h0, be_zero]
      exact ⟨_, [], rfl, by omega⟩
    · obtain ⟨x, xs, e, hx⟩ := ih (n / 256) (by omega) (by omega)
      rw [e]
      exact ⟨x, xs ++ [_], rfl, hx⟩
theorem be_len8 {n : Int} (h1 : n ≤ 18446744073709551615) : (be n.toNat).length ≤ 8 := be_len (by
  have : (256 : Nat) ^ 8 = 18446744073709551616 := by decide +kernel
  omega)
theorem numB_len {n : Int} (h1 : n ≤ 18446744073709551615) : (numB n).length ≤ 9 := by
  unfold numB; rw [List.length_cons]; have := be_len8 h1; omega
theorem numB_u8 {n : Int} (h1 : n ≤ 18446744073709551615) : U8 (numB n) := by
  unfold numB
  have := be_len8 h1
  exact U8.cons (by omega) (be_u8 _)
theorem u64_range (n : Int) : 0 ≤ IntKind.u64.wrap n ∧ IntKind.u64.wrap n ≤ 18446744073709551615 := by
  have : IntKind.u64.wrap n = n % 18446744073709551616 := by
    simp [IntKind.wrap, IntKind.signed, IntKind.bits]
  rw [this]; omega

/-! ### Num, as the program has it -/
theorem num_fill (w : Int) : ∀ (i m : Nat) (t : List Int), (be m).length = i → m ≤ 18446744073709551615 → i ≤ 8 →
    Ev (fun k => tlv_Num.l1 k (m : Int) (w :: (List.replicate i 0 ++ t)) (i : Int)) (w :: (be m ++ t)) := by
  intro i
  induction i with
  | zero =>
    intro m t hi hm h8
    refine Ev.step (fun k => by simp only [tlv_Num.l1]; rfl) ?_
    refine neg (by omega) (now ?_)
    have : be m = [] := List.length_eq_zero_iff.1 hi
    rw [this]; rfl
  | succ i ih =>
    intro m t hi hm h8
    have hm0 : 0 < m := by
      rcases Nat.eq_zero_or_pos m with h | h
      · subst h; rw [be_zero] at hi; cases hi
      · exact h
    have hb := be_pos hm0
    refine Ev.step (fun k => by simp only [tlv_Num.l1]; rfl) ?_
    refine pos (by omega) (pos (by omega) (pos (by simp; omega) ?_))
    have e1 : wrap64 (((i + 1 : Nat) : Int) - 1) = (i : Int) := by rw [w64 (by omega) (by omega)]; omega
    have e2 : ((m : Int) % 256) = ((m % 256 : Nat) : Int) := by omega
    have e3 : ((m : Int) / 256) = ((m / 256 : Nat) : Int) := by omega
    have e4 : (w :: (List.replicate (i + 1) 0 ++ t)).set (((i + 1 : Nat) : Int)).toNat ((m : Int) % 256) = w :: (List.replicate i 0 ++ (((m % 256 : Nat) : Int) :: t)) := by
      rw [Int.toNat_natCast, List.set_cons_succ, e2, List.replicate_succ']
      congr 1
      rw [List.append_assoc, List.set_append_right _ _ (by simp)]
      simp
    rw [e1, e3, e4]
    have := ih (m / 256) (((m % 256 : Nat) : Int) :: t) (by rw [hb] at hi; simpa using hi) (by omega) (by omega)
    rw [hb, List.append_assoc]
    exact this
theorem num_count (n : Int) (hn0 : 0 ≤ n) (hn1 : n ≤ 18446744073709551615) : ∀ (m c : Nat), c + (be m).length = (be n.toNat).length → m ≤ 18446744073709551615 →
    Ev (fun k => tlv_Num.l0 k n (c : Int) (m : Int)) (numB n) := by
  intro m
  induction m using Nat.strongRecOn with
  | ind m ih =>
    intro c hc hm
    have h8 := be_len8 hn1
    refine Ev.step (fun k => by simp only [tlv_Num.l0]; rfl) ?_
    by_cases h0 : m = 0
    · subst h0
      rw [be_zero] at hc
      simp only [List.length_nil, Nat.add_zero] at hc
      have e1 : wrap64 (1 + (c : Int)) = ((c + 1 : Nat) : Int) := by rw [w64 (by omega) (by omega)]; omega
      rw [e1, Int.toNat_natCast]
      refine neg (by omega) (pos (by omega) (pos (by omega) ?_))
      refine bindSome rfl (pos (by simp) ?_)
      have e2 : (List.replicate (c + 1) (0 : Int)).set ((0 : Int)).toNat ((c : Int) % 256) = (c : Int) :: (List.replicate c 0 ++ []) := by
        rw [List.replicate_succ, show ((0 : Int)).toNat = 0 from rfl, List.set_cons_zero, List.append_nil, Int.emod_eq_of_lt (by omega) (by omega)]
      rw [e2]
      obtain ⟨q, rfl⟩ := Int.eq_ofNat_of_zero_le hn0
      have := num_fill (c : Int) c q [] (by rw [hc]; rfl) (by omega) (by omega)
      unfold numB
      rw [Int.toNat_natCast] at hc ⊢
      rw [← hc]
      simpa using this
    · refine pos (by omega) ?_
      have hb := be_pos (show 0 < m by omega)
      rw [hb, List.length_append, List.length_singleton] at hc
      have e1 : wrap64 ((c : Int) + 1) = ((c + 1 : Nat) : Int) := by rw [w64 (by omega) (by omega)]; omega
      have e3 : ((m : Int) / 256) = ((m / 256 : Nat) : Int) := by omega
      rw [e1, e3]
      exact ih (m / 256) (by omega) (c + 1) (by omega) (by omega)
theorem num_ev (n : Int) (hn0 : 0 ≤ n) (hn1 : n ≤ 18446744073709551615) : Ev (fun k => tlv_Num.f k n) (numB n) := by
  have := num_count n hn0 hn1 n.toNat 0 (by omega) (by omega)
  rw [show ((n.toNat : Nat) : Int) = n from by omega] at this
  exact this
/-! ### Num, as the document has it -/
theorem rnum_loop : ∀ (m : Nat) (t : List Int), m ≤ 18446744073709551615 → (be m).length + t.length ≤ 8 →
    Ev (fun k => hanaperref01_Num.l0 k (m : Int) t) ((((be m ++ t).length : Nat) : Int) :: (be m ++ t)) := by
  intro m
  induction m using Nat.strongRecOn with
  | ind m ih =>
    intro t hm ht
    refine Ev.step (fun k => by simp only [hanaperref01_Num.l0]; rfl) ?_
    by_cases h0 : m = 0
    · subst h0
      refine neg (by omega) (bindSome rfl (pos (by simp; omega) (now ?_)))
      rw [be_zero] at ht ⊢
      simp only [List.length_nil] at ht
      rw [Int.emod_eq_of_lt (by omega) (by omega)]; rfl
    · refine pos (by omega) (bindSome rfl (pos (by simp; omega) ?_))
      have hb := be_pos (show 0 < m by omega)
      rw [hb, List.length_append, List.length_singleton] at ht
      have e1 : IntKind.u64.wrap (Int.tdiv (m : Int) 256) = ((m / 256 : Nat) : Int) := by
        rw [Int.tdiv_eq_ediv_of_nonneg (by omega), u64 (by omega) (by omega)]; omega
      have e2 : (Int.tmod (m : Int) 256) % 256 = ((m % 256 : Nat) : Int) := by
        rw [Int.tmod_eq_emod_of_nonneg (by omega)]; omega
      rw [e1, e2, hb, List.append_assoc]
      exact ih (m / 256) (by omega) _ (by omega) (by simp; omega)
theorem rnum_ev (n : Int) (hn0 : 0 ≤ n) (hn1 : n ≤ 18446744073709551615) : Ev (fun k => hanaperref01_Num.f k n) (numB n) := by
  have := rnum_loop n.toNat [] (by omega) (by have := be_len8 hn1; simpa using this)
  rw [show ((n.toNat : Nat) : Int) = n from by omega, List.append_nil] at this
  exact this
/-! ### texts and ints -/
theorem len_u64 (l : List Int) (h : l.length < 140737488355000) : IntKind.u64.wrap ((l.length : Nat) : Int) = l.length := u64 (by omega) (by omega)
theorem text_ev (l : List Int) (h : l.length < 140737488355000) : Ev (fun k => tlv_Text.f k l) (textB l) := by
  unfold tlv_Text.f
  rw [len_u64 l h]
  refine evBind (num_ev _ (by omega) (by omega)) (pos ?_ (now rfl))
  have := numB_len (n := (l.length : Int)) (by omega)
  omega
theorem rtext_ev (l : List Int) (h : l.length < 140737488355000) : Ev (fun k => hanaperref01_Text.f k l) (textB l) := by
  unfold hanaperref01_Text.f
  rw [len_u64 l h]
  refine evBind (rnum_ev _ (by omega) (by omega)) (pos ?_ (now rfl))
  have := numB_len (n := (l.length : Int)) (by omega)
  omega
theorem int_ev (n : Int) : Ev (fun k => tlv_Int.f k n) (intB n) := by
  unfold tlv_Int.f
  exact evBind (num_ev _ (u64_range n).1 (u64_range n).2) (now rfl)
theorem rint_ev (n : Int) : Ev (fun k => hanaperref01_Int.f k n) (intB n) := by
  unfold hanaperref01_Int.f
  exact evBind (rnum_ev _ (u64_range n).1 (u64_range n).2) (now rfl)
theorem same_from (a b : List Int) (hl : a.length = b.length) (hn : a.length ≤ 4611686018427387904) : ∀ (d i : Nat), i + d = a.length →
    Ev (fun k => hanaperref01_Same.l0 k a b i) (decide (a.drop i = b.drop i)) := by
  intro d
  induction d with
  | zero =>
    intro i hi
    refine Ev.step (fun k => by simp only [hanaperref01_Same.l0]; rfl) ?_
    refine neg (by omega) (now ?_)
    rw [List.drop_of_length_le (by omega), List.drop_of_length_le (by omega)]; simp
  | succ d ih =>
    intro i hi
    refine Ev.step (fun k => by simp only [hanaperref01_Same.l0]; rfl) ?_
    refine pos (by omega) (pos (by omega) (pos (by omega) ?_))
    rw [rd_nat a i (by omega), rd_nat b i (by omega), drop_cons a i (by omega), drop_cons b i (by omega), inc (show i < a.length by omega) hn]
    by_cases e : a[i]'(by omega) = b[i]'(by omega)
    · refine pos e ?_
      have := ih (i + 1) (by omega)
      generalize a.drop (i + 1) = A at this ⊢
      generalize b.drop (i + 1) = B at this ⊢
      simpa [e] using this
    · refine neg e (now ?_)
      generalize a.drop (i + 1) = A
      generalize b.drop (i + 1) = B
      simp [e]
theorem same_ev (a b : List Int) (hn : a.length ≤ 4611686018427387904) : Ev (fun k => hanaperref01_Same.f k a b) (decide (a = b)) := by
  unfold hanaperref01_Same.f
  by_cases e : a.length = b.length
  · refine pos (by omega) ?_
    simpa using same_from a b e hn a.length 0 (by omega)
  · refine neg (by omega) (now ?_)
    have : a ≠ b := fun h => e (by rw [h])
    simp [this]
theorem numO_numB (n : Int) (hn0 : 0 ≤ n) (hn1 : n ≤ 18446744073709551615) (rest : List Int) : numO (some (numB n ++ rest)) = (n, some rest) := by
  have h8 := be_len8 hn1
  unfold numB numO
  simp only [List.cons_append]
  rw [if_neg (by omega), if_neg (by rw [List.length_append]; omega), if_neg, Int.toNat_natCast]
  · rw [List.take_left', List.drop_left', be_value]
    · rw [Int.toNat_of_nonneg hn0]
    · rfl
    · rfl
  · rintro ⟨h1, h2⟩
    have : 0 < n.toNat := by
      rcases Nat.eq_zero_or_pos n.toNat with h | h
      · rw [h, be_zero] at h1; simp at h1
      · exact h
    obtain ⟨x, xs, e, hx⟩ := be_head n.toNat this
    rw [e] at h2
    simp at h2
    omega
/-- What is read as a number is just what is made of it. -/
theorem be_unique : ∀ (l : List Int), U8 l → (l = [] ∨ l.getD 0 0 ≠ 0) → be (valueB l).toNat = l := by
  have H : ∀ n (l : List Int), l.length = n → U8 l → (l = [] ∨ l.getD 0 0 ≠ 0) → be (valueB l).toNat = l := by
    intro n
    induction n with
    | zero =>
      intro l hl _ _
      have : l = [] := List.length_eq_zero_iff.1 hl
      subst this
      exact be_zero
    | succ n ih =>
      intro l hl hu hh
      have hne : l ≠ [] := by intro e; rw [e] at hl; cases hl
      have hd := List.dropLast_concat_getLast hne
      have hu1 : U8 l.dropLast := fun x hx => hu x ((List.dropLast_sublist l).subset hx)
      have hx := hu (l.getLast hne) (List.getLast_mem hne)
      have hr := valueB_range hu1
      have h0 : l.getD 0 0 ≠ 0 := hh.resolve_left hne
      have ih' := ih l.dropLast (by simp [hl]) hu1 (by
        by_cases e : l.dropLast = []
        · exact .inl e
        · right
          intro e2
          apply h0
          have := List.length_pos_iff.2 e
          rw [← hd, List.getD_eq_getElem?_getD, List.getElem?_append_left this, ← List.getD_eq_getElem?_getD]
          exact e2)
      have hpos : 0 < (valueB l).toNat := by
        rw [← hd, valueB_snoc]
        by_cases e : l.dropLast = []
        · rw [e] at hd ⊢
          rw [← hd] at h0
          have : l.getLast hne ≠ 0 := by simpa using h0
          simp only [valueB, List.foldl_nil]
          omega
        · have hv : valueB l.dropLast ≠ 0 := by
            intro e2
            rw [e2] at ih'
            rw [show (0 : Int).toNat = 0 from rfl, be_zero] at ih'
            exact e ih'.symm
          omega
      rw [be_pos hpos]
      have e1 : (valueB l).toNat / 256 = (valueB l.dropLast).toNat := by
        have : valueB l = valueB l.dropLast * 256 + l.getLast hne := by rw [← valueB_snoc, hd]
        omega
      have e2 : (((valueB l).toNat % 256 : Nat) : Int) = l.getLast hne := by
        have : valueB l = valueB l.dropLast * 256 + l.getLast hne := by rw [← valueB_snoc, hd]
        omega
      rw [e1, e2, ih', hd]
  exact fun l hu hh => H _ l rfl hu hh
theorem numO_back {b : List Int} (hu : U8 b) {m : Int} {r : List Int} (h : numO (some b) = (m, some r)) : b = numB m ++ r ∧ 0 ≤ m ∧ m ≤ 18446744073709551615 := by
  have hr := numO_range (st := some b) (fun _ e => by cases e; exact hu)
  rw [h] at hr
  refine ⟨?_, hr⟩
  cases b with
  | nil => simp [numO] at h
  | cons x t =>
    simp only [numO] at h
    have hx := hu.head
    by_cases h1 : x > 8
    · rw [if_pos h1] at h; simp at h
    rw [if_neg h1] at h
    by_cases h2 : (t.length : Int) < x
    · rw [if_pos h2] at h; simp at h
    rw [if_neg h2] at h
    by_cases h3 : 0 < x ∧ t.getD 0 0 = 0
    · rw [if_pos h3] at h; simp at h
    rw [if_neg h3] at h
    simp only [Prod.mk.injEq, Option.some.injEq] at h
    obtain ⟨rfl, rfl⟩ := h
    have hb := be_unique (t.take x.toNat) (hu.tail.take _) (by
      by_cases h0 : 0 < x
      · right
        intro e
        apply h3
        refine ⟨h0, ?_⟩
        cases t with
        | nil => simp
        | cons y t =>
          obtain ⟨q, hq⟩ : ∃ q, x.toNat = q + 1 := ⟨x.toNat - 1, by omega⟩
          rw [hq] at e
          simpa using e
      · left
        have : x.toNat = 0 := by omega
        rw [this]; rfl)
    unfold numB
    rw [hb, List.length_take, Nat.min_eq_left (by omega), List.cons_append, List.take_append_drop]
    congr 1
    omega
end Go.Proofs.Ytbebkogkeepfoaa.Lo
/- The lowest functions, each with what it answers. -/
namespace Go.Proofs.Ytbebkogkeepfoaa.Lo
open Go.Proofs.Ytbebkogkeepfoaa.Base Go.Proofs.Ytbebkogkeepfoaa.TlvPlain Go.Proofs.Ytbebkogkeepfoaa.Aid Go.RowKit Go.Proofs.YtbebkogkeepfoaaW.PrintWords Go.Proofs.YtbebkogkeepfoaaW.PrintLast Go.Proofs.YtbebkogkeepfoaaW.PrintMore Go.Proofs.Ytbebkogkeepfoaa.PZ

/-- New bytes. -/
def Makes (w : World) (bs : List Int) (e : Ending) (w' : World) : Prop := ∃ v : Value, e = .returned v ∧ Ob w' w.heap.size v bs ∧ Below w.heap.size w w'
theorem same_c (A0 : Option Addr) (c0 : Nat) (a : List Int) (A1 : Option Addr) (c1 : Nat) (b : List Int) (w : World) (h0 : Rb w A0 a) (hc0 : a.length ≤ c0) (h1 : Rb w A1 b) (hc1 : b.length ≤ c1) (hn : a.length ≤ 4611686018427387904) :
    Calls Try.prog 27 #[.slice A0 a.length c0, .slice A1 b.length c1] w fun e w' => e = .returned (.bool (decide (a = b))) ∧ Drawn0 w w' := by
  obtain ⟨k, h⟩ := (same_ev a b hn).rounds
  exact hanaperref01_Same.calls k A0 c0 a A1 c1 b _ w h0 hc0 h1 hc1 h
theorem same_n (A0 : Option Addr) (c0 n0 : Nat) (a : List Int) (A1 : Option Addr) (c1 n1 : Nat) (b : List Int) (w : World) (h0 : Rb w A0 a) (e0 : a.length = n0) (hc0 : n0 ≤ c0) (h1 : Rb w A1 b) (e1 : b.length = n1) (hc1 : n1 ≤ c1) (hn : n0 ≤ 4611686018427387904) :
    Calls Try.prog 27 #[.slice A0 n0 c0, .slice A1 n1 c1] w fun e w' => e = .returned (.bool (decide (a = b))) ∧ Drawn0 w w' := by
  subst e0; subst e1
  exact same_c A0 c0 a A1 c1 b w h0 hc0 h1 hc1 hn
theorem num_c (n : Int) (w : World) (h0 : 0 ≤ n) (h1 : n ≤ 18446744073709551615) : Calls Try.prog 49 #[.int .u64 n] w (Makes w (numB n)) := by
  obtain ⟨k, h⟩ := (num_ev n h0 h1).rounds
  exact tlv_Num.calls k n _ w h
theorem rnum_c (n : Int) (w : World) (h0 : 0 ≤ n) (h1 : n ≤ 18446744073709551615) : Calls Try.prog 52 #[.int .u64 n] w (Makes w (numB n)) := by
  obtain ⟨k, h⟩ := (rnum_ev n h0 h1).rounds
  exact hanaperref01_Num.calls k n _ w h
theorem text_c (A0 : Option Addr) (c0 : Nat) (l : List Int) (w : World) (hr : Rb w A0 l) (hc : l.length ≤ c0) (hl : l.length < 140737488355000) : Calls Try.prog 50 #[.slice A0 l.length c0] w (Makes w (textB l)) := by
  obtain ⟨k, h⟩ := (text_ev l hl).rounds
  exact tlv_Text.calls k A0 c0 l _ w hr hc h
theorem rtext_c (A0 : Option Addr) (c0 : Nat) (l : List Int) (w : World) (hr : Rb w A0 l) (hc : l.length ≤ c0) (hl : l.length < 140737488355000) : Calls Try.prog 53 #[.slice A0 l.length c0] w (Makes w (textB l)) := by
  obtain ⟨k, h⟩ := (rtext_ev l hl).rounds
  exact hanaperref01_Text.calls k A0 c0 l _ w hr hc h
theorem int_c (n : Int) (w : World) : Calls Try.prog 51 #[.int .i64 n] w (Makes w (intB n)) := by
  obtain ⟨k, h⟩ := (int_ev n).rounds
  exact tlv_Int.calls k n _ w h
theorem rint_c (n : Int) (w : World) : Calls Try.prog 54 #[.int .i64 n] w (Makes w (intB n)) := by
  obtain ⟨k, h⟩ := (rint_ev n).rounds
  exact hanaperref01_Int.calls k n _ w h
end Go.Proofs.Ytbebkogkeepfoaa.Lo
