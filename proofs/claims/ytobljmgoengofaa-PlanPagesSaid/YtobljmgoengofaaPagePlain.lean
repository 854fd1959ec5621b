import Derived.Test.YtobljmgoengofaaCut
/- Pages: the plain law. -/
namespace Go.Proofs.Ytobljmgoengofaa.PagePlain
open Go.RowKit Go.Proofs.Ytobljmgoengofaa.Chunk Go.Proofs.Ytobljmgoengofaa.Cut

/-- Bytes as pages. -/
def paged (l : List Int) : List Int := if _h : l = [] then [] else 240 :: (l.take 255 ++ paged (l.drop 255))
termination_by l.length
decreasing_by
  have : 0 < l.length := List.length_pos_iff.2 (by assumption)
  rw [List.length_drop]
  omega
theorem paged_nil : paged [] = [] := by rw [paged]; simp
theorem paged_cons {l : List Int} (h : l ≠ []) : paged l = 240 :: (l.take 255 ++ paged (l.drop 255)) := by rw [paged, dif_neg h]
def good (l : List Int) : Bool := decide (l.head? = some 240) && decide (l.length ≠ 1)
/-- The bytes of pages: what stands behind each tag; and whether they are pages. -/
def strip (b : List Int) : List Int := ((List.range (nch b.length)).map (fun k => (piece b k).tail)).flatten
def allG (b : List Int) : Bool := (List.range (nch b.length)).all (fun k => good (piece b k))
def wholeS (b : List Int) : List Int × Bool := if allG b = true then (strip b, true) else ([], false)

theorem piece_eq (b : List Int) (k : Nat) : piece b k = (b.drop (256 * k)).take 256 := by
  unfold piece plen
  by_cases h : b.length - 256 * k ≤ 256
  · rw [List.take_of_length_le (by rw [List.length_drop]; omega), List.take_of_length_le (by rw [List.length_drop]; omega)]
  · congr 1
    omega
theorem piece_succ (x : Int) (t : List Int) (k : Nat) : piece (x :: t) (k + 1) = piece (t.drop 255) k := by
  rw [piece_eq, piece_eq, List.drop_drop]
  congr 1
  show List.drop (256 * (k + 1)) (x :: t) = _
  rw [show 256 * (k + 1) = (255 + 256 * k) + 1 by omega, List.drop_succ_cons]
theorem piece_zero (x : Int) (t : List Int) : piece (x :: t) 0 = x :: t.take 255 := by
  rw [piece_eq]
  rfl
theorem nch_cons (x : Int) (t : List Int) : nch (x :: t).length = nch (t.drop 255).length + 1 := by
  unfold nch
  rw [List.length_cons, List.length_drop]
  omega
theorem strip_nil : strip [] = [] := rfl
theorem strip_cons (x : Int) (t : List Int) : strip (x :: t) = t.take 255 ++ strip (t.drop 255) := by
  unfold strip
  rw [nch_cons, List.range_succ_eq_map, List.map_cons, List.flatten_cons, piece_zero, List.map_map, List.tail_cons]
  have e : List.map ((fun k => (piece (x :: t) k).tail) ∘ Nat.succ) (List.range (nch (List.drop 255 t).length)) = List.map (fun k => (piece (t.drop 255) k).tail) (List.range (nch (List.drop 255 t).length)) :=
    List.map_congr_left (fun k _ => by simp only [Function.comp, Nat.succ_eq_add_one, piece_succ])
  rw [e]
theorem allG_nil : allG [] = true := rfl
theorem allG_cons (x : Int) (t : List Int) : allG (x :: t) = (good (x :: t.take 255) && allG (t.drop 255)) := by
  unfold allG
  rw [nch_cons, List.range_succ_eq_map, List.all_cons, piece_zero, List.all_map]
  have e : (fun k => good (piece (x :: t) k)) ∘ Nat.succ = fun k => good (piece (t.drop 255) k) := funext (fun k => by simp only [Function.comp, Nat.succ_eq_add_one, piece_succ])
  rw [e]
theorem strip_len (b : List Int) : (strip b).length ≤ b.length := by
  have H : ∀ n (b : List Int), b.length ≤ n → (strip b).length ≤ b.length := by
    intro n
    induction n with
    | zero => intro b h; obtain rfl : b = [] := List.eq_nil_of_length_eq_zero (by omega); exact Nat.le_refl _
    | succ n ih =>
      intro b h
      cases b with
      | nil => exact Nat.le_refl _
      | cons x t =>
        have := ih (t.drop 255) (by rw [List.length_cons] at h; rw [List.length_drop]; omega)
        rw [List.length_drop] at this
        rw [strip_cons, List.length_append, List.length_take, List.length_cons]
        omega
  exact H _ b (Nat.le_refl _)
theorem paged_len (b : List Int) : (paged b).length ≤ 2 * b.length := by
  have H : ∀ n (b : List Int), b.length ≤ n → (paged b).length ≤ 2 * b.length := by
    intro n
    induction n with
    | zero => intro b h; obtain rfl : b = [] := List.eq_nil_of_length_eq_zero (by omega); rw [paged_nil]; exact Nat.le_refl _
    | succ n ih =>
      intro b h
      by_cases hb : b = []
      · rw [hb, paged_nil]; exact Nat.le_refl _
      · have hp := List.length_pos_iff.2 hb
        have := ih (b.drop 255) (by rw [List.length_drop]; omega)
        rw [List.length_drop] at this
        rw [paged_cons hb, List.length_cons, List.length_append, List.length_take]
        omega
  exact H _ b (Nat.le_refl _)
theorem paged_strip (b : List Int) : decide (paged (strip b) = b) = allG b := by
  have H : ∀ n (b : List Int), b.length ≤ n → (paged (strip b) = b ↔ allG b = true) := by
    intro n
    induction n with
    | zero =>
      intro b h
      obtain rfl : b = [] := List.eq_nil_of_length_eq_zero (by omega)
      rw [strip_nil, paged_nil, allG_nil]
      simp
    | succ n ih =>
      intro b h
      cases b with
      | nil => rw [strip_nil, paged_nil, allG_nil]; simp
      | cons x t =>
        have hi := ih (t.drop 255) (by rw [List.length_cons] at h; rw [List.length_drop]; omega)
        rw [strip_cons, allG_cons]
        by_cases ht : t = []
        · subst ht
          rw [List.take_nil, List.drop_nil, strip_nil, List.append_nil, paged_nil]
          simp [good]
        · have hp := List.length_pos_iff.2 ht
          have hne : t.take 255 ++ strip (t.drop 255) ≠ [] := by
            intro e
            have := congrArg List.length e
            rw [List.length_append, List.length_take, List.length_nil] at this
            omega
          have hg : good (x :: t.take 255) = decide (x = 240) := by
            unfold good
            rw [List.length_cons, List.length_take, decide_eq_true (p := min 255 t.length + 1 ≠ 1) (by omega), Bool.and_true, List.head?_cons]
            simp
          rw [paged_cons hne, hg]
          by_cases hl : 255 ≤ t.length
          · have h1 : (t.take 255 ++ strip (t.drop 255)).take 255 = t.take 255 := by
              rw [List.take_append_of_le_length (by rw [List.length_take]; omega), List.take_take, Nat.min_self]
            have h2 : (t.take 255 ++ strip (t.drop 255)).drop 255 = strip (t.drop 255) := by
              rw [List.drop_append_of_le_length (by rw [List.length_take]; omega), List.drop_of_length_le (by rw [List.length_take]; omega), List.nil_append]
            rw [h1, h2, Bool.and_eq_true, decide_eq_true_eq, ← hi, List.cons.injEq]
            constructor
            · rintro ⟨e1, e2⟩
              refine ⟨e1.symm, ?_⟩
              rw [← List.take_append_drop 255 t] at e2
              have := List.append_cancel_left (by simpa [List.take_append_drop] using e2 : t.take 255 ++ paged (strip (t.drop 255)) = t.take 255 ++ t.drop 255)
              exact this
            · rintro ⟨e1, e2⟩
              exact ⟨e1.symm, by rw [e2, List.take_append_drop]⟩
          · have h0 : t.drop 255 = [] := List.drop_of_length_le (by omega)
            rw [h0, strip_nil, List.append_nil, List.take_take, Nat.min_self, List.take_of_length_le (by omega), h0, paged_nil, List.append_nil, allG_nil, Bool.and_true, decide_eq_true_eq, List.cons.injEq]
            exact ⟨fun e => e.1.symm, fun e => ⟨e.symm, rfl⟩⟩
  have := H _ b (Nat.le_refl _)
  cases h : allG b with
  | true => exact decide_eq_true (this.2 h)
  | false => exact decide_eq_false (fun e => by rw [this.1 e] at h; cases h)
theorem strip_paged (b : List Int) : strip (paged b) = b := by
  have H : ∀ n (b : List Int), b.length ≤ n → strip (paged b) = b := by
    intro n
    induction n with
    | zero => intro b h; obtain rfl : b = [] := List.eq_nil_of_length_eq_zero (by omega); rw [paged_nil, strip_nil]
    | succ n ih =>
      intro b h
      by_cases hb : b = []
      · rw [hb, paged_nil, strip_nil]
      · have hp := List.length_pos_iff.2 hb
        have hi := ih (b.drop 255) (by rw [List.length_drop]; omega)
        rw [paged_cons hb, strip_cons]
        by_cases hl : 255 ≤ b.length
        · rw [List.take_append_of_le_length (by rw [List.length_take]; omega), List.take_take, Nat.min_self, List.drop_append_of_le_length (by rw [List.length_take]; omega), List.drop_of_length_le (l := b.take 255) (by rw [List.length_take]; omega), List.nil_append, hi, List.take_append_drop]
        · have h0 : b.drop 255 = [] := List.drop_of_length_le (by omega)
          rw [h0, paged_nil, List.append_nil, List.take_take, Nat.min_self, List.take_of_length_le (by omega), h0, strip_nil, List.append_nil]
  exact H _ b (Nat.le_refl _)
theorem whole_paged (b : List Int) : wholeS (paged b) = (b, true) := by
  unfold wholeS
  rw [← paged_strip, strip_paged, decide_eq_true rfl, if_pos rfl]
/-- Byte by byte, as the document has it. -/
def pgo : Nat → List Int → List Int
  | _, [] => []
  | i, x :: t => (if i % 255 = 0 then [240] else []) ++ x :: pgo (i + 1) t
theorem pgo_run : ∀ (d i : Nat) (l : List Int), (i + d) % 255 = 0 → (d = 0 ∨ 0 < i % 255) → d < 255 → pgo i l = l.take d ++ pgo (i + d) (l.drop d) := by
  intro d
  induction d with
  | zero => intro i l _ _ _; rfl
  | succ d ih =>
    intro i l h1 h2 h3
    cases l with
    | nil => rfl
    | cons x t =>
      have hi : ¬ i % 255 = 0 := by omega
      rw [List.take_succ_cons, List.drop_succ_cons, List.cons_append, show i + (d + 1) = (i + 1) + d by omega, ← ih (i + 1) t (by omega) (by omega) (by omega)]
      show (if i % 255 = 0 then [240] else []) ++ x :: pgo (i + 1) t = _
      rw [if_neg hi]
      rfl
theorem pgo_paged (l : List Int) : ∀ i, i % 255 = 0 → pgo i l = paged l := by
  have H : ∀ n (l : List Int), l.length ≤ n → ∀ i, i % 255 = 0 → pgo i l = paged l := by
    intro n
    induction n with
    | zero => intro l h i _; obtain rfl : l = [] := List.eq_nil_of_length_eq_zero (by omega); rw [paged_nil]; rfl
    | succ n ih =>
      intro l h i hi
      cases l with
      | nil => rw [paged_nil]; rfl
      | cons x t =>
        rw [paged_cons (by simp)]
        show (if i % 255 = 0 then [240] else []) ++ x :: pgo (i + 1) t = _
        rw [if_pos hi, pgo_run 254 (i + 1) t (by omega) (by omega) (by omega), ih (t.drop 254) (by rw [List.length_cons] at h; rw [List.length_drop]; omega) (i + 1 + 254) (by omega)]
        rfl
  exact H _ l (Nat.le_refl _)
def sgo : Nat → List Int → List Int
  | _, [] => []
  | i, x :: t => (if i % 256 = 0 then [] else [x]) ++ sgo (i + 1) t
theorem sgo_run : ∀ (d i : Nat) (l : List Int), (i + d) % 256 = 0 → (d = 0 ∨ 0 < i % 256) → d < 256 → sgo i l = l.take d ++ sgo (i + d) (l.drop d) := by
  intro d
  induction d with
  | zero => intro i l _ _ _; rfl
  | succ d ih =>
    intro i l h1 h2 h3
    cases l with
    | nil => rfl
    | cons x t =>
      have hi : ¬ i % 256 = 0 := by omega
      rw [List.take_succ_cons, List.drop_succ_cons, List.cons_append, show i + (d + 1) = (i + 1) + d by omega, ← ih (i + 1) t (by omega) (by omega) (by omega)]
      show (if i % 256 = 0 then [] else [x]) ++ sgo (i + 1) t = _
      rw [if_neg hi]
      rfl
theorem sgo_strip (l : List Int) : ∀ i, i % 256 = 0 → sgo i l = strip l := by
  have H : ∀ n (l : List Int), l.length ≤ n → ∀ i, i % 256 = 0 → sgo i l = strip l := by
    intro n
    induction n with
    | zero => intro l h i _; obtain rfl : l = [] := List.eq_nil_of_length_eq_zero (by omega); rfl
    | succ n ih =>
      intro l h i hi
      cases l with
      | nil => rfl
      | cons x t =>
        rw [strip_cons]
        show (if i % 256 = 0 then [] else [x]) ++ sgo (i + 1) t = _
        rw [if_pos hi, List.nil_append, sgo_run 255 (i + 1) t (by omega) (by omega) (by omega), ih (t.drop 255) (by rw [List.length_cons] at h; rw [List.length_drop]; omega) (i + 1 + 255) (by omega)]
  exact H _ l (Nat.le_refl _)
end Go.Proofs.Ytobljmgoengofaa.PagePlain
