import Derived.Test.YtobljmgoengofaaAid
import Derived.Test.YtobljmgoengofaaTlvPlain
import Derived.Test.YtobljmgoengofaaPZxFtlvNum
import Derived.Test.YtobljmgoengofaaPZxFtlvText
import Derived.Test.YtobljmgoengofaaPZxFtlvInt
import Derived.Test.YtobljmgoengofaaPZxFtlvAll
import Derived.Test.YtobljmgoengofaaPZxFhanaperref01Num
import Derived.Test.YtobljmgoengofaaPZxFhanaperref01Text
import Derived.Test.YtobljmgoengofaaPZxFhanaperref01Int
import Derived.Test.YtobljmgoengofaaPZxFhanaperref01Same
import Derived.Test.YtobljmgoengofaaPZxFhanaperref01Copy
import Derived.Test.YtobljmgoengofaaPZxFhanaperref01Value
/- What the lowest functions come to: numbers and texts as bytes, lists that are the same. -/
namespace Go.Proofs.Ytobljmgoengofaa.Lo
open Go.Proofs.Ytobljmgoengofaa.Base Go.Proofs.Ytobljmgoengofaa.TlvPlain Go.Proofs.Ytobljmgoengofaa.Aid Go.RowKit Go.Proofs.YtobljmgoengofaaW.PrintWords Go.Proofs.YtobljmgoengofaaW.PrintLast Go.Proofs.YtobljmgoengofaaW.PrintMore Go.Proofs.Ytobljmgoengofaa.PZ

/-- A number's bytes, the highest first. -/
def be (n : Nat) : List Int := if n = 0 then [] else be (n / 256) ++ [((n % 256 : Nat) : Int)]
termination_by n
decreasing_by omega
def numB (n : Int) : List Int := ((be n.toNat).length : Int) :: be n.toNat
def textB (l : List Int) : List Int := numB l.length ++ l
def intB (n : Int) : List Int := numB (IntKind.u64.wrap n)
theorem be_zero : be 0 = [] := by unfold be; rfl
theorem be_pos {n : Nat} (h : 0 < n) : be n = be (n / 256) ++ [((n % 256 : Nat) : Int)] := by
  rw [be, if_neg (by omega)]
theorem be_len {k : Nat} : ∀ {n : Nat}, n < 256 ^ k → (be n).length ≤ k := by
  induction k with
  | zero => intro n h; have : n = 0 := by omega
            subst this; rw [be_zero]; simp
  | succ k ih =>
    intro n h
    by_cases h0 : n = 0
    · subst h0; rw [be_zero]; simp
    · rw [be_pos (by omega), List.length_append, List.length_singleton]
      have := ih (n := n / 256) (by rw [Nat.pow_succ] at h; omega)
      omega
theorem be_u8 (n : Nat) : U8 (be n) := by
  induction n using Nat.strongRecOn with
  | ind n ih =>
    by_cases h0 : n = 0
    · subst h0; rw [be_zero]; exact U8.nil
    · rw [be_pos (by omega)]
      refine (ih (n / 256) (by omega)).append (U8.cons ?_ U8.nil)
      omega
theorem be_value (n : Nat) : valueB (be n) = n := by
  induction n using Nat.strongRecOn with
  | ind n ih =>
    by_cases h0 : n = 0
    · subst h0; rw [be_zero]; rfl
    · rw [be_pos (by omega), valueB_snoc, ih (n / 256) (by omega)]
      omega
theorem be_head (n : Nat) (h : 0 < n) : ∃ x xs, be n = x :: xs ∧ 0 < x := by
  induction n using Nat.strongRecOn with
  | ind n ih =>
    rw [be_pos h]
    by_cases h0 : n / 256 = 0
    · rw [h0, be_zero]
      exact ⟨_, [], rfl, by omega⟩
    · obtain ⟨x, xs, e, hx⟩ := ih (n / 256) (by omega) (by omega)
      rw [e]
      exact ⟨x, xs ++ [_], rfl, hx⟩
theorem be_len8 {n : Int} (h1 : n ≤ 18446744073709551615) : (be n.toNat).length ≤ 8 := be_len (by
  have : (256 : Nat) ^ 8 = 18446744073709551616 := by decide +kernel
  omega)
theorem numB_len {n : Int} (h1 : n ≤ 18446744073709551615) : (numB n).length ≤ 9 := by
  unfold numB; rw [List.length_cons]; have := be_len8 h1; omega
theorem numB_u8 {n : Int} (h1 : n ≤ 18446744073709551615) : U8 (numB n) := by
  unfold numB
  have := be_len8 h1
  exact U8.cons (by omega) (be_u8 _)
theorem u64_range (n : Int) : 0 ≤ IntKind.u64.wrap n ∧ IntKind.u64.wrap n ≤ 18446744073709551615 := by
  have : IntKind.u64.wrap n = n % 18446744073709551616 := by
    simp [IntKind.wrap, IntKind.signed, IntKind.bits]
  rw [this]; omega

/-! ### Num, as the program has it -/
theorem num_fill (w : Int) : ∀ (i m : Nat) (t : List Int), (be m).length = i → m ≤ 18446744073709551615 → i ≤ 8 →
    Ev (fun k => tlv_Num.l1 k (m : Int) (w :: (List.replicate i 0 ++ t)) (i : Int)) (w :: (be m ++ t)) := by
  intro i
  induction i with
  | zero =>
    intro m t hi hm h8
    refine Ev.step (fun k => by simp only [tlv_Num.l1]; rfl) ?_
    refine neg (by omega) (now ?_)
    have : be m = [] := List.length_eq_zero_iff.1 hi
    rw [this]; rfl
  | succ i ih =>
    intro m t hi hm h8
    have hm0 : 0 < m := by
      rcases Nat.eq_zero_or_pos m with h | h
      · subst h; rw [be_zero] at hi; cases hi
      · exact h
    have hb := be_pos hm0
    refine Ev.step (fun k => by simp only [tlv_Num.l1]; rfl) ?_
    refine pos (by omega) (pos (by omega) (pos (by simp; omega) ?_))
    have e1 : wrap64 (((i + 1 : Nat) : Int) - 1) = (i : Int) := by rw [w64 (by omega) (by omega)]; omega
    have e2 : ((m : Int) % 256) = ((m % 256 : Nat) : Int) := by omega
    have e3 : ((m : Int) / 256) = ((m / 256 : Nat) : Int) := by omega
    have e4 : (w :: (List.replicate (i + 1) 0 ++ t)).set (((i + 1 : Nat) : Int)).toNat ((m : Int) % 256) = w :: (List.replicate i 0 ++ (((m % 256 : Nat) : Int) :: t)) := by
      rw [Int.toNat_natCast, List.set_cons_succ, e2, List.replicate_succ']
      congr 1
      rw [List.append_assoc, List.set_append_right _ _ (by simp)]
      simp
    rw [e1, e3, e4]
    have := ih (m / 256) (((m % 256 : Nat) : Int) :: t) (by rw [hb] at hi; simpa using hi) (by omega) (by omega)
    rw [hb, List.append_assoc]
    exact this
theorem num_count (n : Int) (hn0 : 0 ≤ n) (hn1 : n ≤ 18446744073709551615) : ∀ (m c : Nat), c + (be m).length = (be n.toNat).length → m ≤ 18446744073709551615 →
    Ev (fun k => tlv_Num.l0 k n (c : Int) (m : Int)) (numB n) := by
  intro m
  induction m using Nat.strongRecOn with
  | ind m ih =>
    intro c hc hm
    have h8 := be_len8 hn1
    refine Ev.step (fun k => by simp only [tlv_Num.l0]; rfl) ?_
    by_cases h0 : m = 0
    · subst h0
      rw [be_zero] at hc
      simp only [List.length_nil, Nat.add_zero] at hc
      have e1 : wrap64 (1 + (c : Int)) = ((c + 1 : Nat) : Int) := by rw [w64 (by omega) (by omega)]; omega
      rw [e1, Int.toNat_natCast]
      refine neg (by omega) (pos (by omega) (pos (by omega) ?_))
      refine bindSome rfl (pos (by simp) ?_)
      have e2 : (List.replicate (c + 1) (0 : Int)).set ((0 : Int)).toNat ((c : Int) % 256) = (c : Int) :: (List.replicate c 0 ++ []) := by
        rw [List.replicate_succ, show ((0 : Int)).toNat = 0 from rfl, List.set_cons_zero, List.append_nil, Int.emod_eq_of_lt (by omega) (by omega)]
      rw [e2]
      obtain ⟨q, rfl⟩ := Int.eq_ofNat_of_zero_le hn0
      have := num_fill (c : Int) c q [] (by rw [hc]; rfl) (by omega) (by omega)
      unfold numB
      rw [Int.toNat_natCast] at hc ⊢
      rw [← hc]
      simpa using this
    · refine pos (by omega) ?_
      have hb := be_pos (show 0 < m by omega)
      rw [hb, List.length_append, List.length_singleton] at hc
      have e1 : wrap64 ((c : Int) + 1) = ((c + 1 : Nat) : Int) := by rw [w64 (by omega) (by omega)]; omega
      have e3 : ((m : Int) / 256) = ((m / 256 : Nat) : Int) := by omega
      rw [e1, e3]
      exact ih (m / 256) (by omega) (c + 1) (by omega) (by omega)
theorem num_ev (n : Int) (hn0 : 0 ≤ n) (hn1 : n ≤ 18446744073709551615) : Ev (fun k => tlv_Num.f k n) (numB n) := by
  have := num_count n hn0 hn1 n.toNat 0 (by omega) (by omega)
  rw [show ((n.toNat : Nat) : Int) = n from by omega] at this
  exact this
/-! ### Num, as the document has it -/
theorem rnum_loop : ∀ (m : Nat) (t : List Int), m ≤ 18446744073709551615 → (be m).length + t.length ≤ 8 →
    Ev (fun k => hanaperref01_Num.l0 k (m : Int) t) ((((be m ++ t).length : Nat) : Int) :: (be m ++ t)) := by
  intro m
  induction m using Nat.strongRecOn with
  | ind m ih =>
    intro t hm ht
    refine Ev.step (fun k => by simp only [hanaperref01_Num.l0]; rfl) ?_
    by_cases h0 : m = 0
    · subst h0
      refine neg (by omega) (bindSome rfl (pos (by simp; omega) (now ?_)))
      rw [be_zero] at ht ⊢
      simp only [List.length_nil] at ht
      rw [Int.emod_eq_of_lt (by omega) (by omega)]; rfl
    · refine pos (by omega) (bindSome rfl (pos (by simp; omega) ?_))
      have hb := be_pos (show 0 < m by omega)
      rw [hb, List.length_append, List.length_singleton] at ht
      have e1 : IntKind.u64.wrap (Int.tdiv (m : Int) 256) = ((m / 256 : Nat) : Int) := by
        rw [Int.tdiv_eq_ediv_of_nonneg (by omega), u64 (by omega) (by omega)]; omega
      have e2 : (Int.tmod (m : Int) 256) % 256 = ((m % 256 : Nat) : Int) := by
        rw [Int.tmod_eq_emod_of_nonneg (by omega)]; omega
      rw [e1, e2, hb, List.append_assoc]
      exact ih (m / 256) (by omega) _ (by omega) (by simp; omega)
theorem rnum_ev (n : Int) (hn0 : 0 ≤ n) (hn1 : n ≤ 18446744073709551615) : Ev (fun k => hanaperref01_Num.f k n) (numB n) := by
  have := rnum_loop n.toNat [] (by omega) (by have := be_len8 hn1; simpa using this)
  rw [show ((n.toNat : Nat) : Int) = n from by omega, List.append_nil] at this
  exact this
/-! ### texts and ints -/
theorem len_u64 (l : List Int) (h : l.length < 140737488355000) : IntKind.u64.wrap ((l.length : Nat) : Int) = l.length := u64 (by omega) (by omega)
theorem text_ev (l : List Int) (h : l.length < 140737488355000) : Ev (fun k => tlv_Text.f k l) (textB l) := by
  unfold tlv_Text.f
  rw [len_u64 l h]
  refine evBind (num_ev _ (by omega) (by omega)) (pos ?_ (now rfl))
  have := numB_len (n := (l.length : Int)) (by omega)
  omega
theorem rtext_ev (l : List Int) (h : l.length < 140737488355000) : Ev (fun k => hanaperref01_Text.f k l) (textB l) := by
  unfold hanaperref01_Text.f
  rw [len_u64 l h]
  refine evBind (rnum_ev _ (by omega) (by omega)) (pos ?_ (now rfl))
  have := numB_len (n := (l.length : Int)) (by omega)
  omega
theorem int_ev (n : Int) : Ev (fun k => tlv_Int.f k n) (intB n) := by
  unfold tlv_Int.f
  exact evBind (num_ev _ (u64_range n).1 (u64_range n).2) (now rfl)
theorem rint_ev (n : Int) : Ev (fun k => hanaperref01_Int.f k n) (intB n) := by
  unfold hanaperref01_Int.f
  exact evBind (rnum_ev _ (u64_range n).1 (u64_range n).2) (now rfl)
theorem all_loop (l : List (List Int)) (hl : l.length ≤ 4611686018427387904) (ht : l.flatten.length < 140737488355328) : ∀ (d i : Nat), i + d = l.length →
    Ev (fun k => tlv_All.l0 k (l.take i).flatten l (l.length : Int) (i : Int)) l.flatten := by
  intro d
  induction d with
  | zero =>
    intro i hi
    refine Ev.step (fun k => by simp only [tlv_All.l0]; rfl) ?_
    refine neg (by omega) (now ?_)
    rw [List.take_of_length_le (by omega)]
  | succ d ih =>
    intro i hi
    have hil : i < l.length := by omega
    refine Ev.step (fun k => by simp only [tlv_All.l0]; rfl) ?_
    have e : rd_L3 l (i : Int) = l[i] := by simp [rd_L3, List.getD_eq_getElem?_getD, List.getElem?_eq_getElem hil]
    have e2 : (l.take i).flatten ++ l[i] = (l.take (i + 1)).flatten := by rw [take_snoc l i hil, List.flatten_append]; simp
    rw [e, inc hil hl, e2]
    refine pos (by omega) (pos (by omega) (pos (by omega) (pos ?_ (ih (i + 1) (by omega)))))
    have h1 : (l.take i).flatten.length + l[i].length = (l.take (i + 1)).flatten.length := by rw [← e2, List.length_append]
    have h2 : l.flatten = (l.take (i + 1)).flatten ++ (l.drop (i + 1)).flatten := by rw [← List.flatten_append, List.take_append_drop]
    rw [h2, List.length_append] at ht
    omega
theorem all_ev (l : List (List Int)) (hl : l.length ≤ 4611686018427387904) (ht : l.flatten.length < 140737488355328) : Ev (fun k => tlv_All.f k l) l.flatten := by
  have := all_loop l hl ht l.length 0 (by omega)
  exact this
/-! ### lists that are the same -/
theorem same_from (a b : List Int) (hl : a.length = b.length) (hn : a.length ≤ 4611686018427387904) : ∀ (d i : Nat), i + d = a.length →
    Ev (fun k => hanaperref01_Same.l0 k a b i) (decide (a.drop i = b.drop i)) := by
  intro d
  induction d with
  | zero =>
    intro i hi
    refine Ev.step (fun k => by simp only [hanaperref01_Same.l0]; rfl) ?_
    refine neg (by omega) (now ?_)
    rw [List.drop_of_length_le (by omega), List.drop_of_length_le (by omega)]; simp
  | succ d ih =>
    intro i hi
    refine Ev.step (fun k => by simp only [hanaperref01_Same.l0]; rfl) ?_
    refine pos (by omega) (pos (by omega) (pos (by omega) ?_))
    rw [rd_nat a i (by omega), rd_nat b i (by omega), drop_cons a i (by omega), drop_cons b i (by omega), inc (show i < a.length by omega) hn]
    by_cases e : a[i]'(by omega) = b[i]'(by omega)
    · refine pos e ?_
      have := ih (i + 1) (by omega)
      generalize a.drop (i + 1) = A at this ⊢
      generalize b.drop (i + 1) = B at this ⊢
      simpa [e] using this
    · refine neg e (now ?_)
      generalize a.drop (i + 1) = A
      generalize b.drop (i + 1) = B
      simp [e]
theorem same_ev (a b : List Int) (hn : a.length ≤ 4611686018427387904) : Ev (fun k => hanaperref01_Same.f k a b) (decide (a = b)) := by
  unfold hanaperref01_Same.f
  by_cases e : a.length = b.length
  · refine pos (by omega) ?_
    simpa using same_from a b e hn a.length 0 (by omega)
  · refine neg (by omega) (now ?_)
    have : a ≠ b := fun h => e (by rw [h])
    simp [this]
theorem copy_ev (l : List Int) (h : l.length < 140737488355328) : hanaperref01_Copy.f l = some l := by
  unfold hanaperref01_Copy.f
  simp only [Option.bind_some]
  rw [if_pos (by simpa using h)]; rfl
theorem value_loop (l : List Int) (hu : U8 l) (h8 : l.length ≤ 8) : ∀ (d i : Nat), i + d = l.length →
    Ev (fun k => hanaperref01_Value.l0 k l (valueB (l.take i)) (i : Int)) (valueB l) := by
  intro d
  induction d with
  | zero =>
    intro i hi
    refine Ev.step (fun k => by simp only [hanaperref01_Value.l0]; rfl) ?_
    refine neg (by omega) (now ?_)
    rw [List.take_of_length_le (by omega)]
  | succ d ih =>
    intro i hi
    have hil : i < l.length := by omega
    refine Ev.step (fun k => by simp only [hanaperref01_Value.l0]; rfl) ?_
    refine pos (by omega) (pos (by omega) ?_)
    have h1 := valueB_u64 (hu.take i) (by rw [List.length_take]; omega)
    have h2 := valueB_u64 (hu.take (i + 1)) (by rw [List.length_take]; omega)
    have hx := hu _ (List.getElem_mem hil)
    have e2 := h2
    rw [take_snoc l i hil, valueB_snoc] at e2
    rw [rd_nat l i hil, inc hil (by omega), u64 (x := valueB (l.take i) * 256) (by omega) (by omega), u64 (x := l[i]) (by omega) (by omega), u64 (by omega) (by omega), ← valueB_snoc, ← take_snoc l i hil]
    exact ih (i + 1) (by omega)
theorem value_ev (l : List Int) (hu : U8 l) (h8 : l.length ≤ 8) : Ev (fun k => hanaperref01_Value.f k l) (valueB l) := by
  have := value_loop l hu h8 l.length 0 (by omega)
  exact this

/-! ### what was put is read -/
theorem numO_numB (n : Int) (hn0 : 0 ≤ n) (hn1 : n ≤ 18446744073709551615) (rest : List Int) : numO (some (numB n ++ rest)) = (n, some rest) := by
  have h8 := be_len8 hn1
  unfold numB numO
  simp only [List.cons_append]
  rw [if_neg (by omega), if_neg (by rw [List.length_append]; omega), if_neg, Int.toNat_natCast]
  · rw [List.take_left', List.drop_left', be_value]
    · rw [Int.toNat_of_nonneg hn0]
    · rfl
    · rfl
  · rintro ⟨h1, h2⟩
    have : 0 < n.toNat := by
      rcases Nat.eq_zero_or_pos n.toNat with h | h
      · rw [h, be_zero] at h1; simp at h1
      · exact h
    obtain ⟨x, xs, e, hx⟩ := be_head n.toNat this
    rw [e] at h2
    simp at h2
    omega
/-- What is read as a number is just what is made of it. -/
theorem be_unique : ∀ (l : List Int), U8 l → (l = [] ∨ l.getD 0 0 ≠ 0) → be (valueB l).toNat = l := by
  have H : ∀ n (l : List Int), l.length = n → U8 l → (l = [] ∨ l.getD 0 0 ≠ 0) → be (valueB l).toNat = l := by
    intro n
    induction n with
    | zero =>
      intro l hl _ _
      have : l = [] := List.length_eq_zero_iff.1 hl
      subst this
      exact be_zero
    | succ n ih =>
      intro l hl hu hh
      have hne : l ≠ [] := by intro e; rw [e] at hl; cases hl
      have hd := List.dropLast_concat_getLast hne
      have hu1 : U8 l.dropLast := fun x hx => hu x ((List.dropLast_sublist l).subset hx)
      have hx := hu (l.getLast hne) (List.getLast_mem hne)
      have hr := valueB_range hu1
      have h0 : l.getD 0 0 ≠ 0 := hh.resolve_left hne
      have ih' := ih l.dropLast (by simp [hl]) hu1 (by
        by_cases e : l.dropLast = []
        · exact .inl e
        · right
          intro e2
          apply h0
          have := List.length_pos_iff.2 e
          rw [← hd, List.getD_eq_getElem?_getD, List.getElem?_append_left this, ← List.getD_eq_getElem?_getD]
          exact e2)
      have hpos : 0 < (valueB l).toNat := by
        rw [← hd, valueB_snoc]
        by_cases e : l.dropLast = []
        · rw [e] at hd ⊢
          rw [← hd] at h0
          have : l.getLast hne ≠ 0 := by simpa using h0
          simp only [valueB, List.foldl_nil]
          omega
        · have hv : valueB l.dropLast ≠ 0 := by
            intro e2
            rw [e2] at ih'
            rw [show (0 : Int).toNat = 0 from rfl, be_zero] at ih'
            exact e ih'.symm
          omega
      rw [be_pos hpos]
      have e1 : (valueB l).toNat / 256 = (valueB l.dropLast).toNat := by
        have : valueB l = valueB l.dropLast * 256 + l.getLast hne := by rw [← valueB_snoc, hd]
        omega
      have e2 : (((valueB l).toNat % 256 : Nat) : Int) = l.getLast hne := by
        have : valueB l = valueB l.dropLast * 256 + l.getLast hne := by rw [← valueB_snoc, hd]
        omega
      rw [e1, e2, ih', hd]
  exact fun l hu hh => H _ l rfl hu hh
theorem numO_back {b : List Int} (hu : U8 b) {m : Int} {r : List Int} (h : numO (some b) = (m, some r)) : b = numB m ++ r ∧ 0 ≤ m ∧ m ≤ 18446744073709551615 := by
  have hr := numO_range (st := some b) (fun _ e => by cases e; exact hu)
  rw [h] at hr
  refine ⟨?_, hr⟩
  cases b with
  | nil => simp [numO] at h
  | cons x t =>
    simp only [numO] at h
    have hx := hu.head
    by_cases h1 : x > 8
    · rw [if_pos h1] at h; simp at h
    rw [if_neg h1] at h
    by_cases h2 : (t.length : Int) < x
    · rw [if_pos h2] at h; simp at h
    rw [if_neg h2] at h
    by_cases h3 : 0 < x ∧ t.getD 0 0 = 0
    · rw [if_pos h3] at h; simp at h
    rw [if_neg h3] at h
    simp only [Prod.mk.injEq, Option.some.injEq] at h
    obtain ⟨rfl, rfl⟩ := h
    have hb := be_unique (t.take x.toNat) (hu.tail.take _) (by
      by_cases h0 : 0 < x
      · right
        intro e
        apply h3
        refine ⟨h0, ?_⟩
        cases t with
        | nil => simp
        | cons y t =>
          obtain ⟨q, hq⟩ : ∃ q, x.toNat = q + 1 := ⟨x.toNat - 1, by omega⟩
          rw [hq] at e
          simpa using e
      · left
        have : x.toNat = 0 := by omega
        rw [this]; rfl)
    unfold numB
    rw [hb, List.length_take, Nat.min_eq_left (by omega), List.cons_append, List.take_append_drop]
    congr 1
    omega
end Go.Proofs.Ytobljmgoengofaa.Lo
