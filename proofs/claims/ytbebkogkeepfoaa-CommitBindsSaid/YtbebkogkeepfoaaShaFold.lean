import Derived.Test.YtbebkogkeepfoaaShaOf
/- Bytes put one by one are blocks taken in: plain. -/
namespace Go.Proofs.Ytbebkogkeepfoaa.Sha
set_option linter.unusedVariables false
open Go.RowKit Go.Proofs.Ytbebkogkeepfoaa.Base Go.Proofs.Ytbebkogkeepfoaa.ShaPlain Go.Proofs.Ytbebkogkeepfoaa.Aid Go.Proofs.YtbebkogkeepfoaaW.PrintWords
theorem put_some {s r : List Int} {n : Nat} (hn : n % 64 = 0) (hr : r.length = 64) (B : List Int) (hB : B.length = 64) : ∀ j, j ≤ 63 → List.foldl put (s, r, n) (B.take j) = (s, B.take j ++ r.drop j, n + j) := by
  intro j
  induction j with
  | zero => intro _; simp
  | succ j ih =>
    intro hj
    have hjl : j < B.length := by omega
    rw [Aid.take_snoc B j hjl, List.foldl_append, ih (by omega)]
    show put (s, B.take j ++ r.drop j, n + j) B[j] = _
    unfold put
    dsimp only
    have hm : (n + j) % 64 = j := by omega
    rw [hm, if_neg (by omega), List.append_assoc]
    congr 2
    rw [List.set_append_right _ _ (by rw [List.length_take]; omega), List.length_take, Nat.min_eq_left (by omega), Nat.sub_self, List.drop_eq_getElem_cons (show j < r.length by omega)]
    rfl
theorem put_block {s r : List Int} {n : Nat} (hn : n % 64 = 0) (hr : r.length = 64) (B : List Int) (hB : B.length = 64) : List.foldl put (s, r, n) B = (press s B, B, n + 64) := by
  have h := put_some (s := s) hn hr B hB 63 (by omega)
  have e : B = B.take 63 ++ [B[63]'(by omega)] := by rw [← Aid.take_snoc B 63 (by omega), List.take_of_length_le (by omega)]
  have hset : (B.take 63 ++ r.drop 63).set 63 (B[63]'(by omega)) = B := by
    rw [List.set_append_right _ _ (by rw [List.length_take]; omega), List.length_take, Nat.min_eq_left (by omega), Nat.sub_self, List.drop_eq_getElem_cons (show 63 < r.length by omega), List.drop_of_length_le (by omega)]
    exact e.symm
  conv => lhs; rw [e]
  rw [List.foldl_append, h]
  show put (s, B.take 63 ++ r.drop 63, n + 63) (B[63]'(by omega)) = _
  unfold put
  dsimp only
  rw [show (n + 63) % 64 = 63 from by omega, if_pos rfl, hset]
/-- The state behind the first i blocks of bytes. -/
def blocks (L : List Int) : Nat → List Int
  | 0 => ShaPlain.start
  | i + 1 => press (blocks L i) ((L.drop (64 * i)).take 64)
theorem blocks_len (L : List Int) : ∀ i, (blocks L i).length = 8
  | 0 => rfl
  | i + 1 => press_len (blocks_len L i) _
theorem blocks_u32 (L : List Int) : ∀ i, U32 (blocks L i)
  | 0 => start_u32
  | i + 1 => press_u32 _ _
theorem put_blocks (L : List Int) : ∀ i, 64 * i ≤ L.length → ∃ r, r.length = 64 ∧ List.foldl put st0 (L.take (64 * i)) = (blocks L i, r, 64 * i) := by
  intro i
  induction i with
  | zero => intro _; exact ⟨_, by simp, rfl⟩
  | succ i ih =>
    intro h
    obtain ⟨r, hr, he⟩ := ih (by omega)
    have e : L.take (64 * (i + 1)) = L.take (64 * i) ++ (L.drop (64 * i)).take 64 := by rw [show 64 * (i + 1) = 64 * i + 64 from by omega, List.take_add]
    have hB : ((L.drop (64 * i)).take 64).length = 64 := by rw [List.length_take, List.length_drop]; omega
    refine ⟨_, hB, ?_⟩
    rw [e, List.foldl_append, he, put_block (by omega) hr _ hB]
    rfl
theorem shaB_eq (t : List Int) (m : Nat) (h : (t ++ padB t.length).length = 64 * m) : shaB t = outB (blocks (t ++ padB t.length) m) := by
  have hn : (List.foldl put st0 t).2.2 = t.length := by rw [puts_n]; show 0 + _ = _; omega
  obtain ⟨r, _, he⟩ := put_blocks (t ++ padB t.length) m (by omega)
  rw [List.take_of_length_le (by omega)] at he
  unfold shaB sumB
  rw [hn, ← List.foldl_append, he]
theorem padB_len (n : Nat) : (padB n).length = 9 + (119 - n % 64) % 64 := by
  simp only [padB, List.length_cons, List.length_append, List.length_replicate, sizeB_len]
  omega
theorem pad_whole (n : Nat) : (n + (padB n).length) % 64 = 0 := by rw [padB_len]; omega
end Go.Proofs.Ytbebkogkeepfoaa.Sha
