/- Own and printed texts, laid together. -/
import Derived.Test.YtgohmganimamcaaTpGD
import Derived.Test.YtgohmganimamcaaTpGB
import Derived.Test.YtgohmganimamcaaTpGC
import Derived.Test.YtgohmganimamcaaTpGA
/- hanaperref05.read walked: the next term of the document's reader. -/
namespace Go.Proofs.Ytgohmganimamcaa.Term
set_option linter.unusedVariables false
set_option linter.unusedSimpArgs false
open Go.RowKit Go.Proofs.Ytgohmganimamcaa.Base Go.Proofs.Ytgohmganimamcaa.TlvPlain Go.Proofs.Ytgohmganimamcaa.Lo Go.Proofs.Ytgohmganimamcaa.RdPlain Go.Proofs.Ytgohmganimamcaa.Aid Go.Proofs.Ytgohmganimamcaa.PZ Go.Proofs.YtgohmganimamcaaW.PrintWords Go.Proofs.YtgohmganimamcaaW.PrintLast Go.Proofs.YtgohmganimamcaaW.PrintMore
theorem leftR_set4 {w0 w W : World} {g q T : Nat} {s : Option (List Int)} {a b c d : Value} (h : Rf.Left w0 w W g s) (hq : Blk W q T #[a, b, c, d]) (ha : NoU8 a) (hb : NoU8 b) (hc : NoU8 c) (hd : NoU8 d) (hne : g ≠ q) (h0 : w0.heap.size ≤ q) (hw : w.heap.size ≤ q) (a' b' c' d' : Value) :
    Rf.Left w0 w ((((W.setCell ⟨q, 0, none⟩ a').setCell ⟨q, 1, none⟩ b').setCell ⟨q, 2, none⟩ c').setCell ⟨q, 3, none⟩ d') g s :=
  ⟨h.1.keep (((((KeepBut.refl W q none).set_ 0 _).set_ 1 _).set_ 2 _).set_ 3 _) hne hq (no_u8_4 ha hb hc hd), below_set (below_set (below_set (below_set h.2.1 h0) h0) h0) h0, keep_far (keep_far (keep_far (keep_far h.2.2 hw _) hw _) hw _) hw _⟩
theorem leftR_set1 {w0 w W : World} {g q T j : Nat} {s : Option (List Int)} {a b c d : Value} (h : Rf.Left w0 w W g s) (hq : Blk W q T #[a, b, c, d]) (ha : NoU8 a) (hb : NoU8 b) (hc : NoU8 c) (hd : NoU8 d) (hne : g ≠ q) (h0 : w0.heap.size ≤ q) (hw : w.heap.size ≤ q) (v : Value) :
    Rf.Left w0 w (W.setCell ⟨q, j, none⟩ v) g s :=
  ⟨h.1.keep ((KeepBut.refl W q none).set_ j _) hne hq (no_u8_4 ha hb hc hd), below_set h.2.1 h0, keep_far h.2.2 hw _⟩
theorem leftR_below {w0 w W W1 : World} {g : Nat} {s : Option (List Int)} (h : Rf.Left w0 w W g s) (hb : Below W.heap.size W W1) : Rf.Left w0 w W1 g s := ⟨h.1.below hb, below_step h.2.1 hb, h.2.2.trans (KeepBut.of_below hb g none) (.inl rfl)⟩
theorem leftR_grown {w0 w W W1 : World} {g : Nat} {s : Option (List Int)} {row : Option Nat} (h : Rf.Left w0 w W g s) (hb : Below w.heap.size W W1) (hg : W.grownBy W1 row) (hr : ∀ b, row = some b → g < b ∧ w0.heap.size ≤ b) (h0 : w0.heap.size ≤ w.heap.size) : Rf.Left w0 w W1 g s :=
  ⟨h.1.grown hg (fun b e => (hr b e).1), h.2.1.trans (hb.mono h0), Nat.le_trans h.2.2.1 hb.size, fun i hi h1 h2 => (hb.block i hi).trans (h.2.2.2 i hi h1 h2)⟩
/-- What a reading of a term leaves: with a failed reader, some term or other. -/
def ReadR (w0 w : World) (g : Nat) (r : Option (ST × List Int)) (e : Ending) (w' : World) : Prop :=
  ∃ (y : ST) (v2 v3 : Value) (st : Option (List Int)), e = .returned (.agg #[.int .i64 y.f0, .int .u64 y.f1, v2, v3]) ∧ Ob w' w.heap.size v2 y.f2 ∧ Kd.R k26 26 w' w.heap.size (fun k => some k ≠ v2.ownBlock) v3 y.f3 ∧ Rf.Left w0 w w' g st ∧ (match r with | some (x, s) => y = x ∧ st = some s | none => st = none)
theorem kids_calls (c : Int) (w : World) : Calls Try.prog 68 #[.int .i64 c] w fun e w' => e = .returned (.int .i64 (if thereB c = true then (kidT c : Int) else -1)) ∧ Drawn0 w w' := by
  obtain ⟨n, hn⟩ := (kids_v c).rounds
  exact hanaperref05_kids.calls n c _ w hn
set_option maxHeartbeats 4000000 in
set_option maxRecDepth 100000 in
theorem rread_fail (d : Nat) (hd : d ≤ 8) (w0 w : World) (g : Nat) (st : Option (List Int)) (h : Rf.RfO w0 w g st) (hB : Below w0.heap.size w0 w) (hst : takeO st 1 = ([], none)) :
    Calls Try.prog 52 #[.pointer (some ⟨g, 0, none⟩), .int .i64 (d : Int)] w (ReadR w0 w g (readT d st)) := by
  have HE := Aside0.mk (show readT d st = none by
    cases d with
    | zero => rfl
    | succ d => rw [readT, hst])
  have HB := Aside0.mk (below_step hB (below_alloc (Below.refl w.heap.size w) (.cells #[.int .i64 0, .int .u64 0, .slice none 0 0, .slice none 0 0] 26)))
  have HS := Aside0.mk (h.below (below_alloc (Below.refl w.heap.size w) (.cells #[.int .i64 0, .int .u64 0, .slice none 0 0, .slice none 0 0] 26)))
  have H0 := Aside0.mk (show Blk (w.alloc (.cells #[.int .i64 0, .int .u64 0, .slice none 0 0, .slice none 0 0] 26)) w.heap.size 26 #[.int .i64 0, .int .u64 0, .slice none 0 0, .slice none 0 0] from blk_new _ _)
  have HG := Aside0.mk (show w0.heap.size ≤ w.heap.size ∧ g < w.heap.size from ⟨hB.size, h.blk.2.1⟩)
  have HKW := Aside0.mk (KeepBut.of_below (below_alloc (Below.refl w.heap.size w) (.cells #[.int .i64 0, .int .u64 0, .slice none 0 0, .slice none 0 0] 26)) g none)
  have hu26 := Try.underlying26
  have hu81 := Try.underlying81
  have H1 := Aside0.mk hst
  clear h hB hst hd
  go_enter Try.func52, Try.ntmps52
  go_wp2_with (go_at_call 73; refine (Rf.takeO_ w0 _ g st 1 HS.out HB.out).mono ?_; rintro e w1 ⟨v, rfl, ho, hl⟩; rw [H1.out] at ho hl; obtain ⟨A5, c5, rfl, _, _⟩ := Ob.reads ho; have HL := Aside0.mk (Rf.Left.set ⟨hl.1, hl.2.1, HKW.out.trans hl.2.2 (.inl rfl)⟩); have hf1 := hl.1.fail.1; have hf2 := hl.1.fail.2; have H01 := Aside0.mk (show Blk (w1.setCell ⟨g, 1, none⟩ (.bool true)) w.heap.size 26 #[.int .i64 0, .int .u64 0, .slice none 0 0, .slice none 0 0] from blk_far (H0.out.keep hl.2.2 (by have := HG.out; omega)) (by have := HG.out; dsimp only; omega) _); have z0 := (H01.out).cell 0; have z1 := (H01.out).cell 1; have z2 := (H01.out).cell 2; have z3 := (H01.out).cell 3; have y0 := blk_frozen (H01.out) 0; have y1 := blk_frozen (H01.out) 1; have y2 := blk_frozen (H01.out) 2; have y3 := blk_frozen (H01.out) 3; simp only [List.getElem?_toArray, List.getElem?_cons_zero, List.getElem?_cons_succ] at z0 z1 z2 z3; clear ho hl)
  refine bodyPost_ret (results_cell_row rfl _ _ w.heap.size 26 #[.int .i64 0, .int .u64 0, .slice none 0 0, .slice none 0 0] (0, 0) _ rfl (set4 H01.out _ _ _ _) Try.underlying26 rfl (by kernel_rfl)) rfl ?_
  rw [HE.out]
  exact ⟨⟨0, 0, [], []⟩, _, _, none, rfl, Kd.R_nil _ _ _ _ _, Kd.R_nil _ _ _ _ _, leftR_set4 HL.out H01.out (by simp [NoU8]) (by simp [NoU8]) (by simp [NoU8]) (by simp [NoU8]) (by have := HG.out; omega) HG.out.1 (Nat.le_refl _) _ _ _ _, rfl⟩
set_option maxHeartbeats 4000000 in
set_option maxRecDepth 100000 in
theorem rread_zero (w0 w : World) (g : Nat) (c : Int) (r : List Int) (h : Rf.RfO w0 w g (some (c :: r))) (hB : Below w0.heap.size w0 w) :
    Calls Try.prog 52 #[.pointer (some ⟨g, 0, none⟩), .int .i64 0] w (ReadR w0 w g (readT 0 (some (c :: r)))) := by
  have HE := Aside0.mk (show readT 0 (some (c :: r)) = none from by rw [readT])
  have HB := Aside0.mk (below_step hB (below_alloc (Below.refl w.heap.size w) (.cells #[.int .i64 0, .int .u64 0, .slice none 0 0, .slice none 0 0] 26)))
  have HS := Aside0.mk (h.below (below_alloc (Below.refl w.heap.size w) (.cells #[.int .i64 0, .int .u64 0, .slice none 0 0, .slice none 0 0] 26)))
  have H0 := Aside0.mk (show Blk (w.alloc (.cells #[.int .i64 0, .int .u64 0, .slice none 0 0, .slice none 0 0] 26)) w.heap.size 26 #[.int .i64 0, .int .u64 0, .slice none 0 0, .slice none 0 0] from blk_new _ _)
  have HG := Aside0.mk (show w0.heap.size ≤ w.heap.size ∧ g < w.heap.size from ⟨hB.size, h.blk.2.1⟩)
  have HKW := Aside0.mk (KeepBut.of_below (below_alloc (Below.refl w.heap.size w) (.cells #[.int .i64 0, .int .u64 0, .slice none 0 0, .slice none 0 0] 26)) g none)
  have hu26 := Try.underlying26
  have hu81 := Try.underlying81
  clear h hB
  go_enter Try.func52, Try.ntmps52
  go_wp2_with (go_at_call 73; refine (Rf.takeO_ w0 _ g (some (c :: r)) 1 HS.out HB.out).mono ?_; rintro e w1 ⟨v, rfl, ho, hl⟩; rw [take1] at ho hl; obtain ⟨A5, c5, rfl, hl5, hr5⟩ := Ob.reads ho; obtain ⟨ad5, rfl, hc5⟩ := Rb.at0 hr5; have HL := Aside0.mk (show Rf.Left w0 w w1 g (some r) from ⟨hl.1, hl.2.1, HKW.out.trans hl.2.2 (.inl rfl)⟩); have H01 := Aside0.mk (H0.out.keep hl.2.2 (by have := HG.out; omega)); have hf1 := (HL.out).1.fail.1; have hf2 := (HL.out).1.fail.2; simp only [Option.isSome_some, Option.isSome_none, Bool.not_true, Bool.not_false] at hf1; have HLs := Aside0.mk (Rf.Left.set HL.out); have H0s := Aside0.mk (show Blk (w1.setCell ⟨g, 1, none⟩ (.bool true)) w.heap.size 26 #[.int .i64 0, .int .u64 0, .slice none 0 0, .slice none 0 0] from blk_far H01.out (by have := HG.out; dsimp only; omega) _); have z0 := (H0s.out).cell 0; have z1 := (H0s.out).cell 1; have z2 := (H0s.out).cell 2; have z3 := (H0s.out).cell 3; have y0 := blk_frozen (H0s.out) 0; have y1 := blk_frozen (H0s.out) 1; have y2 := blk_frozen (H0s.out) 2; have y3 := blk_frozen (H0s.out) 3; simp only [List.getElem?_toArray, List.getElem?_cons_zero, List.getElem?_cons_succ] at z0 z1 z2 z3; clear ho hl hl5 hr5)
  refine bodyPost_ret (results_cell_row rfl _ _ w.heap.size 26 #[.int .i64 0, .int .u64 0, .slice none 0 0, .slice none 0 0] (0, 0) _ rfl (set4 H0s.out _ _ _ _) Try.underlying26 rfl (by kernel_rfl)) rfl ?_
  rw [HE.out]
  exact ⟨⟨0, 0, [], []⟩, _, _, none, rfl, Kd.R_nil _ _ _ _ _, Kd.R_nil _ _ _ _ _, leftR_set4 HLs.out H0s.out (by simp [NoU8]) (by simp [NoU8]) (by simp [NoU8]) (by simp [NoU8]) (by have := HG.out; omega) HG.out.1 (Nat.le_refl _) _ _ _ _, rfl⟩
set_option maxHeartbeats 4000000 in
set_option maxRecDepth 100000 in
theorem rread_no (d : Nat) (hd : d + 1 ≤ 8) (w0 w : World) (g : Nat) (c : Int) (r : List Int) (h : Rf.RfO w0 w g (some (c :: r))) (hB : Below w0.heap.size w0 w) (ht : thereB c = false) :
    Calls Try.prog 52 #[.pointer (some ⟨g, 0, none⟩), .int .i64 ((d + 1 : Nat) : Int)] w (ReadR w0 w g (readT (d + 1) (some (c :: r)))) := by
  have HE := Aside0.mk (show readT (d + 1) (some (c :: r)) = none by
    rw [readT, take1]
    simp only [List.getD_cons_zero]
    rw [if_neg (by rw [ht]; decide)])
  have hk := kids_calls c
  rw [if_neg (by rw [ht]; decide)] at hk
  have HKC := Aside0.mk hk
  have hc0 := (show 0 ≤ c ∧ c ≤ 255 from h.u8.1.head).1
  have hc1 := (show 0 ≤ c ∧ c ≤ 255 from h.u8.1.head).2
  have z9 : decide (((d + 1 : Nat) : Int) < 1) = false := decide_eq_false (by omega)
  have HB := Aside0.mk (below_step hB (below_alloc (Below.refl w.heap.size w) (.cells #[.int .i64 0, .int .u64 0, .slice none 0 0, .slice none 0 0] 26)))
  have HS := Aside0.mk (h.below (below_alloc (Below.refl w.heap.size w) (.cells #[.int .i64 0, .int .u64 0, .slice none 0 0, .slice none 0 0] 26)))
  have H0 := Aside0.mk (show Blk (w.alloc (.cells #[.int .i64 0, .int .u64 0, .slice none 0 0, .slice none 0 0] 26)) w.heap.size 26 #[.int .i64 0, .int .u64 0, .slice none 0 0, .slice none 0 0] from blk_new _ _)
  have HG := Aside0.mk (show w0.heap.size ≤ w.heap.size ∧ g < w.heap.size from ⟨hB.size, h.blk.2.1⟩)
  have HKW := Aside0.mk (KeepBut.of_below (below_alloc (Below.refl w.heap.size w) (.cells #[.int .i64 0, .int .u64 0, .slice none 0 0, .slice none 0 0] 26)) g none)
  have hu26 := Try.underlying26
  have hu81 := Try.underlying81
  obtain ⟨D, hD⟩ : ∃ D : Int, ((d + 1 : Nat) : Int) = D := ⟨_, rfl⟩
  rw [hD] at z9 ⊢
  clear h hB ht hd hk hD
  go_enter Try.func52, Try.ntmps52
  go_wp2_with (first
    | (go_at_call 73; refine (Rf.takeO_ w0 _ g (some (c :: r)) 1 HS.out HB.out).mono ?_; rintro e w1 ⟨v, rfl, ho, hl⟩; rw [take1] at ho hl; obtain ⟨A5, c5, rfl, hl5, hr5⟩ := Ob.reads ho; obtain ⟨ad5, rfl, hc5⟩ := Rb.at0 hr5; have HL := Aside0.mk (show Rf.Left w0 w w1 g (some r) from ⟨hl.1, hl.2.1, HKW.out.trans hl.2.2 (.inl rfl)⟩); have H01 := Aside0.mk (H0.out.keep hl.2.2 (by have := HG.out; omega)); have hf1 := HL.out.1.fail.1; have hf2 := HL.out.1.fail.2; simp only [Option.isSome_some, Bool.not_true] at hf1; clear ho hl hl5 hr5)
    | (go_at_call 68; refine (HKC.out _).mono ?_; rintro e w3 ⟨rfl, hdr⟩; have HL3 := Aside0.mk (leftR_below HL.out (Drawn0.below hdr)); have H03 := Aside0.mk (H01.out.below (Drawn0.below hdr)); clear hf1 hf2; have hf1 := (HL3.out).1.fail.1; have hf2 := (HL3.out).1.fail.2; simp only [Option.isSome_some, Option.isSome_none, Bool.not_true, Bool.not_false] at hf1; have HLs := Aside0.mk (Rf.Left.set HL3.out); have H0s := Aside0.mk (show Blk (w3.setCell ⟨g, 1, none⟩ (.bool true)) w.heap.size 26 #[.int .i64 0, .int .u64 0, .slice none 0 0, .slice none 0 0] from blk_far H03.out (by have := HG.out; dsimp only; omega) _); have z0 := (H0s.out).cell 0; have z1 := (H0s.out).cell 1; have z2 := (H0s.out).cell 2; have z3 := (H0s.out).cell 3; have y0 := blk_frozen (H0s.out) 0; have y1 := blk_frozen (H0s.out) 1; have y2 := blk_frozen (H0s.out) 2; have y3 := blk_frozen (H0s.out) 3; simp only [List.getElem?_toArray, List.getElem?_cons_zero, List.getElem?_cons_succ] at z0 z1 z2 z3; clear hdr))
  refine bodyPost_ret (results_cell_row rfl _ _ w.heap.size 26 #[.int .i64 0, .int .u64 0, .slice none 0 0, .slice none 0 0] (0, 0) _ rfl (set4 H0s.out _ _ _ _) Try.underlying26 rfl (by kernel_rfl)) rfl ?_
  rw [HE.out]
  exact ⟨⟨0, 0, [], []⟩, _, _, none, rfl, Kd.R_nil _ _ _ _ _, Kd.R_nil _ _ _ _ _, leftR_set4 HLs.out H0s.out (by simp [NoU8]) (by simp [NoU8]) (by simp [NoU8]) (by simp [NoU8]) (by have := HG.out; omega) HG.out.1 (Nat.le_refl _) _ _ _ _, rfl⟩
/-- What the loop over a term's kids keeps. -/
def KidsR (w0 w W : World) (g gt : Nat) (c n : Int) (dt : List Int) (ks : List ST) (s : Option (List Int)) : Prop :=
  ∃ v2 v3, (∃ A2 n2 c2, v2 = .slice A2 n2 c2) ∧ (∃ A3 n3 c3, v3 = .slice A3 n3 c3) ∧ Blk W gt 26 #[.int .i64 c, .int .u64 n, v2, v3] ∧ Ob W (gt + 1) v2 dt ∧ Kd.R k26 26 W (gt + 1) (fun k => (k ≠ g ∧ k ≠ gt) ∧ some k ≠ v2.ownBlock) v3 ks ∧ Rf.Left w0 w W g s ∧ Blk W w.heap.size 26 #[.int .i64 0, .int .u64 0, .slice none 0 0, .slice none 0 0]
theorem row_gR {w0 W : World} {g : Nat} {s : Option (List Int)} {b : Nat} {v : Value} {xs : List Int} (h : Rf.RfO w0 W g s) (ho : Ob W b v xs) : Kd.R (Kd.int .u8) 5 W b (fun k => True ∧ k ≠ g) v xs := by
  obtain ⟨_, _, cs, h1, _⟩ := h.blk
  exact Kd.R_types ho h1 (by decide)
theorem rowR_keep {w0 W W1 : World} {g : Nat} {s : Option (List Int)} {b : Nat} {v : Value} {xs : List Int} (h : Rf.RfO w0 W g s) (ho : Ob W b v xs) (hk : KeepBut W W1 g none) : Ob W1 b v xs :=
  Kd.R_mono (Kd.R_keep (row_gR h ho) hk (fun _ h => h.2)) (fun _ _ => trivial)
theorem readT_none (d : Nat) : readT d none = none := by
  cases d with
  | zero => rfl
  | succ d => rw [readT]; simp [takeO]
theorem readK_none (d N : Nat) (h : 0 < N) : readK (readT d) N none = none := by
  obtain ⟨n, rfl⟩ : ∃ n, N = n + 1 := ⟨N - 1, by omega⟩
  rw [readK, readT_none]
/-- What is left to be read, or that the reader has failed. -/
def InvR (d N : Nat) (s2 : Option (List Int)) (i : Nat) (ks : List ST) (s : Option (List Int)) : Prop :=
  match s with
  | none => ∀ l q, readK (readT d) N s2 ≠ some (l, some q)
  | some r => Rest d N s2 i ks (some r)
theorem inv_start (d N : Nat) (s2 : Option (List Int)) : InvR d N s2 0 [] s2 := by
  cases s2 with
  | none =>
    intro l q
    by_cases h : 0 < N
    · rw [readK_none d N h]; simp
    · rw [show N = 0 by omega, readK]; simp
  | some r =>
    show Rest d N (some r) 0 [] (some r)
    simp only [Rest, Nat.sub_zero, List.nil_append]
    cases readK (readT d) N (some r) <;> rfl
theorem inv_next {d N i : Nat} {s2 : Option (List Int)} {ks : List ST} {r : List Int} {y : ST} {st : Option (List Int)} (h : InvR d N s2 i ks (some r)) (hi : i < N) (hm : match readT d (some r) with | some (x, s) => y = x ∧ st = some s | none => st = none) : InvR d N s2 (i + 1) (ks ++ [y]) st := by
  have h' : Rest d N s2 i ks (some r) := h
  cases hr : readT d (some r) with
  | none =>
    rw [hr] at hm
    have hm' : st = none := hm
    subst hm'
    intro l q
    rw [rest_none h' hi hr]
    simp
  | some p =>
    obtain ⟨x, s⟩ := p
    rw [hr] at hm
    obtain ⟨rfl, rfl⟩ := (show y = x ∧ st = some s from hm)
    exact rest_some h' hi hr
theorem inv_end {d N i : Nat} {s2 s : Option (List Int)} {ks : List ST} (h : InvR d N s2 i ks s) (hi : N ≤ i ∨ s = none) (c nv : Int) (dv : List Int) :
    match (match readK (readT d) N s2 with | some (ks, some s) => some ((⟨c, nv, dv, ks⟩ : ST), s) | _ => none) with | some (x, s') => (⟨c, nv, dv, ks⟩ : ST) = x ∧ s = some s' | none => s = none := by
  cases s with
  | none =>
    cases hk : readK (readT d) N s2 with
    | none => rfl
    | some p =>
      obtain ⟨l, q⟩ := p
      cases q with
      | none => rfl
      | some q => exact absurd hk (h l q)
  | some r =>
    have h' : Rest d N s2 i ks (some r) := h
    rw [rest_end h' (by rcases hi with hi | hi; exact hi; cases hi)]
    exact ⟨rfl, rfl⟩
theorem kidsR_more {w0 w W w1 : World} {g gt : Nat} {c n : Int} {dt : List Int} {ks : List ST} {x : ST} {s : Option (List Int)} {v1 : Value} {A2 A3 : Option Addr} {n2 c2 n3 c3 : Nat} {ok : Nat → Prop}
    (hT : Blk W gt 26 #[.int .i64 c, .int .u64 n, .slice A2 n2 c2, .slice A3 n3 c3]) (hO : Ob W (gt + 1) (.slice A2 n2 c2) dt) (hR : Kd.R k26 26 W (gt + 1) ok (.slice A3 n3 c3) ks) (hL : Rf.Left w0 w W g s) (h0 : Blk W w.heap.size 26 #[.int .i64 0, .int .u64 0, .slice none 0 0, .slice none 0 0])
    (hR1 : Kd.R k26 26 w1 (gt + 1) (fun k => (k ≠ g ∧ k ≠ gt) ∧ some k ≠ (Value.slice A2 n2 c2).ownBlock) v1 (ks ++ [x])) (hb : Below (gt + 1) W w1) (hg : W.grownBy w1 (Value.slice A3 n3 c3).ownBlock) (hw : w0.heap.size ≤ w.heap.size ∧ g < w.heap.size) (hgt : w.heap.size < gt) :
    Blk w1 gt 26 #[.int .i64 c, .int .u64 n, .slice A2 n2 c2, .slice A3 n3 c3] ∧ KidsR w0 w (w1.setCell ⟨gt, 3, none⟩ v1) g gt c n dt (ks ++ [x]) s := by
  have hT1 := blk_step hT hb (by omega)
  have hL1 : Rf.Left w0 w w1 g s := leftR_grown hL (hb.mono (by omega)) hg (fun b e => by have := Kd.R_base hR b e; exact ⟨by omega, by omega⟩) hw.1
  refine ⟨hT1, .slice A2 n2 c2, v1, ⟨_, _, _, rfl⟩, ?_, ?_, ?_, ?_, ?_, ?_⟩
  · obtain ⟨A, c, e⟩ := Kd.R_slice hR1
    exact ⟨_, _, _, e⟩
  · have h := blk_set hT1 3 v1
    simpa [Blk] using h
  · exact Kd.R_set (ob_grown hO hR hg) hT1 (by decide) 3 _
  · exact Kd.R_far hR1 (fun _ hk => hk.1.2) _
  · exact leftR_set1 hL1 hT1 (by simp [NoU8]) (by simp [NoU8]) (by simp [NoU8]) (by simp [NoU8]) (by omega) (by omega) (by omega) _
  · exact blk_far (blk_step h0 hb (by omega)) (by dsimp only; omega) _
theorem kidsR_out {w0 w W : World} {g gt : Nat} {dt : List Int} {ks : List ST} {s : Option (List Int)} {v2 v3 : Value} {ok : Nat → Prop}
    (hO : Ob W (gt + 1) v2 dt) (hR : Kd.R k26 26 W (gt + 1) ok v3 ks) (hok : ∀ k, ok k → some k ≠ v2.ownBlock) (hL : Rf.Left w0 w W g s) (h0 : Blk W w.heap.size 26 #[.int .i64 0, .int .u64 0, .slice none 0 0, .slice none 0 0]) (hw : w0.heap.size ≤ w.heap.size ∧ g < w.heap.size) (hgt : w.heap.size < gt) (a b c d : Value) :
    Ob ((((W.setCell ⟨w.heap.size, 0, none⟩ a).setCell ⟨w.heap.size, 1, none⟩ b).setCell ⟨w.heap.size, 2, none⟩ c).setCell ⟨w.heap.size, 3, none⟩ d) w.heap.size v2 dt
    ∧ Kd.R k26 26 ((((W.setCell ⟨w.heap.size, 0, none⟩ a).setCell ⟨w.heap.size, 1, none⟩ b).setCell ⟨w.heap.size, 2, none⟩ c).setCell ⟨w.heap.size, 3, none⟩ d) w.heap.size (fun k => some k ≠ v2.ownBlock) v3 ks
    ∧ Rf.Left w0 w ((((W.setCell ⟨w.heap.size, 0, none⟩ a).setCell ⟨w.heap.size, 1, none⟩ b).setCell ⟨w.heap.size, 2, none⟩ c).setCell ⟨w.heap.size, 3, none⟩ d) g s := by
  have hk := ((((KeepBut.refl W w.heap.size none).set_ 0 a).set_ 1 b).set_ 2 c).set_ 3 d
  refine ⟨Kd.R_mono (Kd.R_lower (Kd.R_keep (Kd.R_bound hO) hk (fun k hk => ?_)) (by omega)) (fun _ _ => trivial), Kd.R_mono (Kd.R_lower (Kd.R_keep (Kd.R_bound hR) hk (fun k hk => ?_)) (by omega)) (fun k h => hok k h.1), leftR_set4 hL h0 (by simp [NoU8]) (by simp [NoU8]) (by simp [NoU8]) (by simp [NoU8]) (by omega) (by omega) (Nat.le_refl _) _ _ _ _⟩
  · have := hk.2.1; omega
  · have := hk.2.1; omega
set_option maxHeartbeats 8000000 in
set_option maxRecDepth 100000 in
theorem rread_num (d : Nat) (hd : d + 1 ≤ 8) (ih : ∀ w0 w g st, Rf.RfO w0 w g st → Below w0.heap.size w0 w → Calls Try.prog 52 #[.pointer (some ⟨g, 0, none⟩), .int .i64 (d : Int)] w (ReadR w0 w g (readT d st))) (w0 w : World) (g : Nat) (c : Int) (r : List Int) (h : Rf.RfO w0 w g (some (c :: r))) (hB : Below w0.heap.size w0 w) (ht : thereB c = true) (hn : numT c = true) (hdt : datT c = false) :
    Calls Try.prog 52 #[.pointer (some ⟨g, 0, none⟩), .int .i64 ((d + 1 : Nat) : Int)] w (ReadR w0 w g (readT (d + 1) (some (c :: r)))) := by
  have HE := Aside0.mk (show readT (d + 1) (some (c :: r)) = match readK (readT d) (kidT c) ((numO (some r)).2) with
      | some (ks, some s) => some (⟨c, (numO (some r)).1, [], ks⟩, s)
      | _ => none by
    rw [readT, take1]
    simp only [List.getD_cons_zero]
    rw [if_pos ht]
    unfold datR numR
    rw [hn, hdt]
    rfl)
  have hk := kids_calls c
  rw [if_pos ht] at hk
  have HKC := Aside0.mk hk
  have HNC := Aside0.mk (fun w => hanaperref05_number.calls c true w (by rw [number_v, hn]))
  have HIH := Aside0.mk ih
  have HD8 := Aside0.mk hd
  have hc0 := (show 0 ≤ c ∧ c ≤ 255 from h.u8.1.head).1
  have hc1 := (show 0 ≤ c ∧ c ≤ 255 from h.u8.1.head).2
  have z9 : decide (((d + 1 : Nat) : Int) < 1) = false := decide_eq_false (by omega)
  have z8 : decide ((kidT c : Int) < 0) = false := decide_eq_false (by omega)
  have z7 : (c == 3) = false := by rw [← hdt]; rfl
  have HW1 := Aside0.mk (show wrap64 (((d + 1 : Nat) : Int) - 1) = (d : Int) from dec_i (by omega))
  have HNL := Aside0.mk (kid_len c)
  have HB := Aside0.mk (below_step hB (below_alloc (Below.refl w.heap.size w) (.cells #[.int .i64 0, .int .u64 0, .slice none 0 0, .slice none 0 0] 26)))
  have HS := Aside0.mk (h.below (below_alloc (Below.refl w.heap.size w) (.cells #[.int .i64 0, .int .u64 0, .slice none 0 0, .slice none 0 0] 26)))
  have H0 := Aside0.mk (show Blk (w.alloc (.cells #[.int .i64 0, .int .u64 0, .slice none 0 0, .slice none 0 0] 26)) w.heap.size 26 #[.int .i64 0, .int .u64 0, .slice none 0 0, .slice none 0 0] from blk_new _ _)
  have HG := Aside0.mk (show w0.heap.size ≤ w.heap.size ∧ g < w.heap.size from ⟨hB.size, h.blk.2.1⟩)
  have HKW := Aside0.mk (KeepBut.of_below (below_alloc (Below.refl w.heap.size w) (.cells #[.int .i64 0, .int .u64 0, .slice none 0 0, .slice none 0 0] 26)) g none)
  have hu26 := Try.underlying26
  have hu81 := Try.underlying81
  obtain ⟨D, hD⟩ : ∃ D : Int, ((d + 1 : Nat) : Int) = D := ⟨_, rfl⟩
  rw [hD] at z9 HW1 ⊢
  obtain ⟨N, hN⟩ : ∃ k, kidT c = k := ⟨_, rfl⟩
  rw [hN] at z8 HE HKC HNL
  clear h hB ht hd hk hD ih hn hdt hN
  go_enter Try.func52, Try.ntmps52
  go_upto_region 10 with (first
    | (go_at_call 73; refine (Rf.takeO_ w0 _ g (some (c :: r)) 1 HS.out HB.out).mono ?_; rintro e w1 ⟨v, rfl, ho, hl⟩; rw [take1] at ho hl; obtain ⟨A5, c5, rfl, hl5, hr5⟩ := Ob.reads ho; obtain ⟨ad5, rfl, hc5⟩ := Rb.at0 hr5; have HL := Aside0.mk (show Rf.Left w0 w w1 g (some r) from ⟨hl.1, hl.2.1, HKW.out.trans hl.2.2 (.inl rfl)⟩); have H01 := Aside0.mk (H0.out.keep hl.2.2 (by have := HG.out; omega)); have hf1 := HL.out.1.fail.1; have hf2 := HL.out.1.fail.2; simp only [Option.isSome_some, Bool.not_true] at hf1; clear ho hl hl5 hr5)
    | (go_at_call 68; refine (HKC.out _).mono ?_; rintro e w3 ⟨rfl, hdr⟩; have HL4 := Aside0.mk (leftR_below HL.out (below_alloc (Drawn0.below hdr) (.cells #[.int .i64 c, .int .u64 0, .slice none 0 0, .slice none 0 0] 26))); have H04 := Aside0.mk ((H01.out.below (Drawn0.below hdr)).alloc (.cells #[.int .i64 c, .int .u64 0, .slice none 0 0, .slice none 0 0] 26)); have HT4 := Aside0.mk (show Blk (w3.alloc (.cells #[.int .i64 c, .int .u64 0, .slice none 0 0, .slice none 0 0] 26)) w3.heap.size 26 #[.int .i64 c, .int .u64 0, .slice none 0 0, .slice none 0 0] from blk_new _ _); have HZ3 := Aside0.mk (show w1.heap.size ≤ w3.heap.size from (Drawn0.below hdr).size); have hc6 := ((Drawn0.below hdr).cell (World.block_lt_of_cell? _ _ hc5)).trans hc5; clear hc5 hf1 hf2 hdr)
    | (go_at_call 65; refine (HNC.out _).mono ?_; rintro e w4 ⟨rfl, hdr⟩; have HL5 := Aside0.mk (leftR_below HL4.out (Drawn0.below hdr)); have H05 := Aside0.mk (H04.out.below (Drawn0.below hdr)); have HT5 := Aside0.mk (HT4.out.below (Drawn0.below hdr)); have x0 := (HT5.out).cell 0; have x1 := (HT5.out).cell 1; have x2 := (HT5.out).cell 2; have x3 := (HT5.out).cell 3; have v0 := blk_frozen (HT5.out) 0; have v1 := blk_frozen (HT5.out) 1; have v2 := blk_frozen (HT5.out) 2; have v3 := blk_frozen (HT5.out) 3; simp only [List.getElem?_toArray, List.getElem?_cons_zero, List.getElem?_cons_succ] at x0 x1 x2 x3; clear hdr)
    | (go_at_call 74; go_must (refine (Rf.numO_ w0 _ g (some r) HL5.out.1 HL5.out.2.1).mono ?_; rintro e w5 ⟨rfl, hl⟩; have HT6 := Aside0.mk (HT5.out.keep hl.2.2 (by have := HG.out; have := HL.out.2.2.1; have := HZ3.out; omega)); have H06 := Aside0.mk (H05.out.keep hl.2.2 (by have := HG.out; omega)); have HL6 := Aside0.mk (HL5.out.trans hl); clear x0 x1 x2 x3 v0 v1 v2 v3; have x0 := (HT6.out).cell 0; have x1 := (HT6.out).cell 1; have x2 := (HT6.out).cell 2; have x3 := (HT6.out).cell 3; have v0 := blk_frozen (HT6.out) 0; have v1 := blk_frozen (HT6.out) 1; have v2 := blk_frozen (HT6.out) 2; have v3 := blk_frozen (HT6.out) 3; simp only [List.getElem?_toArray, List.getElem?_cons_zero, List.getElem?_cons_succ] at x0 x1 x2 x3; clear hl)))
  obtain ⟨W, hW⟩ : ∃ W, w5.setCell ⟨w3.heap.size, 1, none⟩ (.int .u64 (numO (some r)).1) = W := ⟨_, rfl⟩
  have HKD := Aside0.mk (show KidsR w0 w W g w3.heap.size c (numO (some r)).1 [] [] ((numO (some r)).2) by rw [← hW]; exact ⟨.slice none 0 0, .slice none 0 0, ⟨_, _, _, rfl⟩, ⟨_, _, _, rfl⟩, by have h := blk_set HT6.out 1 (.int .u64 (numO (some r)).1); simpa [Blk] using h, Kd.R_nil _ _ _ _ _, Kd.R_nil _ _ _ _ _, leftR_set1 HL6.out HT6.out (by simp [NoU8]) (by simp [NoU8]) (by simp [NoU8]) (by simp [NoU8]) (by have := HG.out; have := HL.out.2.2.1; have := HZ3.out; omega) (by have := HG.out; have := HL.out.2.2.1; have := HZ3.out; omega) (by have := HL.out.2.2.1; have := HZ3.out; omega) _, blk_far H06.out (by have := HG.out; have := HL.out.2.2.1; have := HZ3.out; have := H01.out.lt; dsimp only; omega) _⟩)
  rw [hW]
  have HGT := Aside0.mk (show w.heap.size < w3.heap.size by have := HL.out.2.2.1; have := HZ3.out; have := H01.out.lt; omega)
  obtain ⟨gt, hgt⟩ : ∃ k, w3.heap.size = k := ⟨_, rfl⟩
  rw [hgt] at HKD HGT ⊢
  obtain ⟨nv, hnv⟩ : ∃ k : Int, (numO (some r)).1 = k := ⟨_, rfl⟩
  obtain ⟨s2, hs2⟩ : ∃ k : Option (List Int), (numO (some r)).2 = k := ⟨_, rfl⟩
  simp only [hnv, hs2] at HKD HE ⊢
  have hw9 := HW1.out
  have hw8 : IntKind.i64.wrap (D - 1) = (d : Int) := by have h := hw9; rw [IntKind.wrap_i64]; unfold wrap64 at h; omega
  clear hW hgt x0 x1 x2 x3 v0 v1 v2 v3 hc6
  go_wp2
  go_loopg [7] N (fun gf s7 wx => ∃ (i : Nat) (ks : List ST) (s : Option (List Int)) (wy : World), wy = wx ∧ s7 = .int .i64 (i : Int) ∧ i + gf = N ∧ ks.length ≤ i ∧ KidsR w0 w wy g gt c nv [] ks s ∧ InvR d N s2 i ks s)
  case atStart => exact ⟨0, [], s2, _, rfl, rfl, by omega, by simp, HKD.out, inv_start d N s2⟩
  case round =>
    obtain ⟨i, ks, s, wx, rfl, rfl, hi, hkl, ⟨v2, v3, ⟨A2, n2, c2, rfl⟩, ⟨A3, n3, c3, rfl⟩, hT, hO, hR, hL, h0⟩, hIv⟩ := hrel
    have HQ := Aside0.mk hi; have HLK := Aside0.mk hkl; have HT := Aside0.mk hT; have HO := Aside0.mk hO; have HR := Aside0.mk hR; have HL := Aside0.mk hL; have H0 := Aside0.mk h0; have HIV := Aside0.mk hIv
    have x0 := HT.out.cell 0; simp only [List.getElem?_toArray, List.getElem?_cons_zero, List.getElem?_cons_succ] at x0
    clear hi hkl hT hO hR hL h0 hIv HKD
    by_cases hlt : i < N
    · have hl1 : decide ((i : Int) < (N : Int)) = true := decide_eq_true (by omega)
      cases s with
      | none =>
        go_wp2_with (go_at_call 68; refine (HKC.out _).mono ?_; rintro e w6 ⟨rfl, hdr⟩; have HT' := Aside0.mk (HT.out.below (Drawn0.below hdr)); have H0' := Aside0.mk (H0.out.below (Drawn0.below hdr)); have HL' := Aside0.mk (leftR_below HL.out (Drawn0.below hdr)); have HO' := Aside0.mk (Kd.R_below HO.out (Drawn0.below hdr)); have HR' := Aside0.mk (Kd.R_below HR.out (Drawn0.below hdr)); have hf1 := HL'.out.1.fail.1; have hf2 := HL'.out.1.fail.2; simp only [Option.isSome_some, Option.isSome_none, Bool.not_true, Bool.not_false] at hf1; clear x0; have x0 := (HT'.out).cell 0; have x1 := (HT'.out).cell 1; have x2 := (HT'.out).cell 2; have x3 := (HT'.out).cell 3; have v0 := blk_frozen (HT'.out) 0; have v1 := blk_frozen (HT'.out) 1; have v2 := blk_frozen (HT'.out) 2; have v3 := blk_frozen (HT'.out) 3; simp only [List.getElem?_toArray, List.getElem?_cons_zero, List.getElem?_cons_succ] at x0 x1 x2 x3; have z0 := (H0'.out).cell 0; have z1 := (H0'.out).cell 1; have z2 := (H0'.out).cell 2; have z3 := (H0'.out).cell 3; have y0 := blk_frozen (H0'.out) 0; have y1 := blk_frozen (H0'.out) 1; have y2 := blk_frozen (H0'.out) 2; have y3 := blk_frozen (H0'.out) 3; simp only [List.getElem?_toArray, List.getElem?_cons_zero, List.getElem?_cons_succ] at z0 z1 z2 z3; clear hdr)
        refine bodyPost_ret (results_cell_row rfl _ _ w.heap.size 26 #[.int .i64 c, .int .u64 nv, .slice A2 n2 c2, .slice A3 n3 c3] (0, 0) _ rfl (set4 H0'.out _ _ _ _) Try.underlying26 rfl (by kernel_rfl)) rfl ?_
        have hko := kidsR_out HO'.out HR'.out (fun _ h => h.2) HL'.out H0'.out HG.out HGT.out (.int .i64 c) (.int .u64 nv) (.slice A2 n2 c2) (.slice A3 n3 c3)
        refine ⟨⟨c, nv, [], ks⟩, .slice A2 n2 c2, .slice A3 n3 c3, none, rfl, hko.1, hko.2.1, hko.2.2, ?_⟩
        rw [HE.out]
        exact inv_end HIV.out (.inr rfl) c nv []
      | some r' =>
        have hw1 : wrap64 ((i : Int) + 1) = ((i + 1 : Nat) : Int) := by have := HNL.out; rw [Aid.w64 (by omega) (by omega)]; omega
        have HLN := Aside0.mk (show (ks.length + 1) * 64 ≤ 140737488355328 by have := HLK.out; have := HQ.out; have := HNL.out; omega)
        go_wp2_with (go_at_call 68; refine (HKC.out _).mono ?_; rintro e w6 ⟨rfl, hdr⟩; have HT' := Aside0.mk (HT.out.below (Drawn0.below hdr)); have H0' := Aside0.mk (H0.out.below (Drawn0.below hdr)); have HL' := Aside0.mk (leftR_below HL.out (Drawn0.below hdr)); have HO' := Aside0.mk (Kd.R_below HO.out (Drawn0.below hdr)); have HR' := Aside0.mk (Kd.R_below HR.out (Drawn0.below hdr)); have hf1 := HL'.out.1.fail.1; have hf2 := HL'.out.1.fail.2; simp only [Option.isSome_some, Option.isSome_none, Bool.not_true, Bool.not_false] at hf1; clear x0; have x0 := (HT'.out).cell 0; have x1 := (HT'.out).cell 1; have x2 := (HT'.out).cell 2; have x3 := (HT'.out).cell 3; have v0 := blk_frozen (HT'.out) 0; have v1 := blk_frozen (HT'.out) 1; have v2 := blk_frozen (HT'.out) 2; have v3 := blk_frozen (HT'.out) 3; simp only [List.getElem?_toArray, List.getElem?_cons_zero, List.getElem?_cons_succ] at x0 x1 x2 x3; have X0 := ((HT'.out.below (below_drew1 (Below.refl _ _)))).cell 0; have X1 := ((HT'.out.below (below_drew1 (Below.refl _ _)))).cell 1; have X2 := ((HT'.out.below (below_drew1 (Below.refl _ _)))).cell 2; have X3 := ((HT'.out.below (below_drew1 (Below.refl _ _)))).cell 3; have V0 := blk_frozen ((HT'.out.below (below_drew1 (Below.refl _ _)))) 0; have V1 := blk_frozen ((HT'.out.below (below_drew1 (Below.refl _ _)))) 1; have V2 := blk_frozen ((HT'.out.below (below_drew1 (Below.refl _ _)))) 2; have V3 := blk_frozen ((HT'.out.below (below_drew1 (Below.refl _ _)))) 3; simp only [List.getElem?_toArray, List.getElem?_cons_zero, List.getElem?_cons_succ] at X0 X1 X2 X3; clear hdr)
        have HCD := Aside0.mk (HIH.out w0 w6.drew g (some r') (HL'.out.1.below (below_drew1 (Below.refl _ _))) (below_drew1 HL'.out.2.1))
        go_region_law (first
          | (go_simp; go_at_call 52; refine HCD.out.mono ?_; rintro e w7 ⟨y, q2, q3, st, rfl, ho2, ho3, hl, hm⟩; obtain ⟨B2, e2, rfl⟩ := Kd.R_slice ho2; obtain ⟨B3, e3, rfl⟩ := Kd.R_slice ho3
             have HKW6 := Aside0.mk ((KeepBut.of_below (below_drew1 (Below.refl w6.heap.size w6)) g none).trans hl.2.2 (.inl rfl))
             have HL7 := Aside0.mk (show Rf.Left w0 w w7 g st from ⟨hl.1, hl.2.1, HL'.out.2.2.trans HKW6.out (.inl rfl)⟩)
             have HT7 := Aside0.mk (HT'.out.keep HKW6.out (by have := HG.out; have := HGT.out; omega)); have H07 := Aside0.mk (H0'.out.keep HKW6.out (by have := HG.out; omega))
             have HO7 := Aside0.mk (rowR_keep HL'.out.1 HO'.out HKW6.out); have HR7 := Aside0.mk (Kd.R_keep HR'.out HKW6.out (fun _ h => h.1.1))
             have HM := Aside0.mk (k26_mkM _ (gt + 1) (fun k => w6.heap.size ≤ k) y (Kd.R_mono (Kd.R_lower (Kd.R_bound ho2) (show gt + 1 ≤ w6.drew.heap.size from HT'.out.lt)) (fun _ h => h.2.1)) (Kd.R_mono (Kd.R_lower (Kd.R_bound ho3) (show gt + 1 ≤ w6.drew.heap.size from HT'.out.lt)) (fun _ h => h.2.1)))
             have HOK := Aside0.mk (show ∀ k, w6.heap.size ≤ k → ((k ≠ g ∧ k ≠ gt) ∧ some k ≠ (Value.slice A2 n2 c2).ownBlock) ∧ some k ≠ (Value.slice A3 n3 c3).ownBlock from fun k hk => ⟨⟨⟨by have := HG.out; have := HT'.out.lt; have := HGT.out; omega, by have := HT'.out.lt; omega⟩, fun e => by have := Kd.R_lt HO'.out k e.symm; omega⟩, fun e => by have := Kd.R_lt HR'.out k e.symm; omega⟩)
             have HSZ := Aside0.mk (show gt + 1 ≤ w7.heap.size from HT7.out.lt)
             have HFR := Aside0.mk (show ∀ k, w7.heap.size ≤ k → (k ≠ g ∧ k ≠ gt) ∧ some k ≠ (Value.slice A2 n2 c2).ownBlock from fun k hk => ⟨⟨by have := HG.out; have := HGT.out; have := HSZ.out; omega, by have := HSZ.out; omega⟩, fun e => by have := Kd.R_lt HO7.out k e.symm; omega⟩)
             have HIN := Aside0.mk (inv_next HIV.out hlt hm)
             have t5_ := fun o => (HT7.out.alloc o).cell 3; have t3_ := HT7.out.cell 3; have f3_ := blk_frozen HT7.out 3; simp only [List.getElem?_toArray, List.getElem?_cons_zero, List.getElem?_cons_succ] at t3_ t5_
             clear ho2 ho3 hl hm)
          | (go_must (refine Kd.R_append_step k26 (gt + 1) rfl (.tmp 62) (.tmp 67) 24 26 (.agg #[.int .i64 0, .int .u64 0, .slice none 0 0, .slice none 0 0]) 64 rfl Try.underlying24 info_t rfl (by decide) (by decide) _ ks y _ (fun k => (k ≠ g ∧ k ≠ gt) ∧ some k ≠ (Value.slice A2 n2 c2).ownBlock) (fun k => w6.heap.size ≤ k) rfl (by first | rfl | (rw [size_alloc]; rfl)) HM.out HOK.out HFR.out HR7.out (Below.refl _ _) HSZ.out HLN.out ?_); intro v1 w8 hr1 hb1 hg1 _; obtain ⟨A9, c9, rfl⟩ := Kd.R_slice hr1; have HMORE := Aside0.mk (kidsR_more HT7.out HO7.out HR7.out HL7.out H07.out hr1 hb1 hg1 HG.out HGT.out); have t3__ := blk_frozen HMORE.out.1 3; have t4__ := HMORE.out.1.cell 3; simp only [List.getElem?_toArray, List.getElem?_cons_zero, List.getElem?_cons_succ] at t4__; clear hr1 hb1 hg1))
        all_goals
          go_wp2_with (fail)
          go_roundg (N - (i + 1))
          case measure => have := HQ.out; omega
          case rel => exact ⟨i + 1, ks ++ [y], st, _, rfl, by first | rfl | rw [hw1], by omega, by have := HLK.out; rw [List.length_append, List.length_singleton]; omega, by have hm := HMORE.out.2; rw [List.length_append] at hm; exact hm, HIN.out⟩
    · have hl1 : decide ((i : Int) < (N : Int)) = false := decide_eq_false (by omega)
      cases s with
      | none =>
        go_wp2_with (go_at_call 68; refine (HKC.out _).mono ?_; rintro e w6 ⟨rfl, hdr⟩; have HT' := Aside0.mk (HT.out.below (Drawn0.below hdr)); have H0' := Aside0.mk (H0.out.below (Drawn0.below hdr)); have HL' := Aside0.mk (leftR_below HL.out (Drawn0.below hdr)); have HO' := Aside0.mk (Kd.R_below HO.out (Drawn0.below hdr)); have HR' := Aside0.mk (Kd.R_below HR.out (Drawn0.below hdr)); have hf1 := HL'.out.1.fail.1; have hf2 := HL'.out.1.fail.2; simp only [Option.isSome_some, Option.isSome_none, Bool.not_true, Bool.not_false] at hf1; clear x0; have x0 := (HT'.out).cell 0; have x1 := (HT'.out).cell 1; have x2 := (HT'.out).cell 2; have x3 := (HT'.out).cell 3; have v0 := blk_frozen (HT'.out) 0; have v1 := blk_frozen (HT'.out) 1; have v2 := blk_frozen (HT'.out) 2; have v3 := blk_frozen (HT'.out) 3; simp only [List.getElem?_toArray, List.getElem?_cons_zero, List.getElem?_cons_succ] at x0 x1 x2 x3; have z0 := (H0'.out).cell 0; have z1 := (H0'.out).cell 1; have z2 := (H0'.out).cell 2; have z3 := (H0'.out).cell 3; have y0 := blk_frozen (H0'.out) 0; have y1 := blk_frozen (H0'.out) 1; have y2 := blk_frozen (H0'.out) 2; have y3 := blk_frozen (H0'.out) 3; simp only [List.getElem?_toArray, List.getElem?_cons_zero, List.getElem?_cons_succ] at z0 z1 z2 z3; clear hdr)
        refine bodyPost_ret (results_cell_row rfl _ _ w.heap.size 26 #[.int .i64 c, .int .u64 nv, .slice A2 n2 c2, .slice A3 n3 c3] (0, 0) _ rfl (set4 H0'.out _ _ _ _) Try.underlying26 rfl (by kernel_rfl)) rfl ?_
        have hko := kidsR_out HO'.out HR'.out (fun _ h => h.2) HL'.out H0'.out HG.out HGT.out (.int .i64 c) (.int .u64 nv) (.slice A2 n2 c2) (.slice A3 n3 c3)
        refine ⟨⟨c, nv, [], ks⟩, .slice A2 n2 c2, .slice A3 n3 c3, none, rfl, hko.1, hko.2.1, hko.2.2, ?_⟩
        rw [HE.out]
        exact inv_end HIV.out (.inr rfl) c nv []
      | some r' =>
        go_wp2_with (go_at_call 68; refine (HKC.out _).mono ?_; rintro e w6 ⟨rfl, hdr⟩; have HT' := Aside0.mk (HT.out.below (Drawn0.below hdr)); have H0' := Aside0.mk (H0.out.below (Drawn0.below hdr)); have HL' := Aside0.mk (leftR_below HL.out (Drawn0.below hdr)); have HO' := Aside0.mk (Kd.R_below HO.out (Drawn0.below hdr)); have HR' := Aside0.mk (Kd.R_below HR.out (Drawn0.below hdr)); have hf1 := HL'.out.1.fail.1; have hf2 := HL'.out.1.fail.2; simp only [Option.isSome_some, Option.isSome_none, Bool.not_true, Bool.not_false] at hf1; clear x0; have x0 := (HT'.out).cell 0; have x1 := (HT'.out).cell 1; have x2 := (HT'.out).cell 2; have x3 := (HT'.out).cell 3; have v0 := blk_frozen (HT'.out) 0; have v1 := blk_frozen (HT'.out) 1; have v2 := blk_frozen (HT'.out) 2; have v3 := blk_frozen (HT'.out) 3; simp only [List.getElem?_toArray, List.getElem?_cons_zero, List.getElem?_cons_succ] at x0 x1 x2 x3; have z0 := (H0'.out).cell 0; have z1 := (H0'.out).cell 1; have z2 := (H0'.out).cell 2; have z3 := (H0'.out).cell 3; have y0 := blk_frozen (H0'.out) 0; have y1 := blk_frozen (H0'.out) 1; have y2 := blk_frozen (H0'.out) 2; have y3 := blk_frozen (H0'.out) 3; simp only [List.getElem?_toArray, List.getElem?_cons_zero, List.getElem?_cons_succ] at z0 z1 z2 z3; clear hdr)
        refine bodyPost_ret (results_cell_row rfl _ _ w.heap.size 26 #[.int .i64 c, .int .u64 nv, .slice A2 n2 c2, .slice A3 n3 c3] (0, 0) _ rfl (set4 H0'.out _ _ _ _) Try.underlying26 rfl (by kernel_rfl)) rfl ?_
        have hko := kidsR_out HO'.out HR'.out (fun _ h => h.2) HL'.out H0'.out HG.out HGT.out (.int .i64 c) (.int .u64 nv) (.slice A2 n2 c2) (.slice A3 n3 c3)
        refine ⟨⟨c, nv, [], ks⟩, .slice A2 n2 c2, .slice A3 n3 c3, some r', rfl, hko.1, hko.2.1, hko.2.2, ?_⟩
        rw [HE.out]
        exact inv_end HIV.out (.inl (by omega)) c nv []
set_option maxHeartbeats 8000000 in
set_option maxRecDepth 100000 in
theorem rread_dat (d : Nat) (hd : d + 1 ≤ 8) (ih : ∀ w0 w g st, Rf.RfO w0 w g st → Below w0.heap.size w0 w → Calls Try.prog 52 #[.pointer (some ⟨g, 0, none⟩), .int .i64 (d : Int)] w (ReadR w0 w g (readT d st))) (w0 w : World) (g : Nat) (c : Int) (r : List Int) (h : Rf.RfO w0 w g (some (c :: r))) (hB : Below w0.heap.size w0 w) (ht : thereB c = true) (hn : numT c = false) (hdt : datT c = true) :
    Calls Try.prog 52 #[.pointer (some ⟨g, 0, none⟩), .int .i64 ((d + 1 : Nat) : Int)] w (ReadR w0 w g (readT (d + 1) (some (c :: r)))) := by
  have HE := Aside0.mk (show readT (d + 1) (some (c :: r)) = match readK (readT d) (kidT c) ((textO (some r) 100).2) with
      | some (ks, some s) => some (⟨c, 0, (textO (some r) 100).1, ks⟩, s)
      | _ => none by
    rw [readT, take1]
    simp only [List.getD_cons_zero]
    rw [if_pos ht]
    unfold datR numR
    rw [hn, hdt]
    rfl)
  have hk := kids_calls c
  rw [if_pos ht] at hk
  have HKC := Aside0.mk hk
  have HNC := Aside0.mk (fun w => hanaperref05_number.calls c false w (by rw [number_v, hn]))
  have HIH := Aside0.mk ih
  have HD8 := Aside0.mk hd
  have hc0 := (show 0 ≤ c ∧ c ≤ 255 from h.u8.1.head).1
  have hc1 := (show 0 ≤ c ∧ c ≤ 255 from h.u8.1.head).2
  have z9 : decide (((d + 1 : Nat) : Int) < 1) = false := decide_eq_false (by omega)
  have z8 : decide ((kidT c : Int) < 0) = false := decide_eq_false (by omega)
  have z7 : (c == 3) = true := by rw [← hdt]; rfl
  have HW1 := Aside0.mk (show wrap64 (((d + 1 : Nat) : Int) - 1) = (d : Int) from dec_i (by omega))
  have HNL := Aside0.mk (kid_len c)
  have HB := Aside0.mk (below_step hB (below_alloc (Below.refl w.heap.size w) (.cells #[.int .i64 0, .int .u64 0, .slice none 0 0, .slice none 0 0] 26)))
  have HS := Aside0.mk (h.below (below_alloc (Below.refl w.heap.size w) (.cells #[.int .i64 0, .int .u64 0, .slice none 0 0, .slice none 0 0] 26)))
  have H0 := Aside0.mk (show Blk (w.alloc (.cells #[.int .i64 0, .int .u64 0, .slice none 0 0, .slice none 0 0] 26)) w.heap.size 26 #[.int .i64 0, .int .u64 0, .slice none 0 0, .slice none 0 0] from blk_new _ _)
  have HG := Aside0.mk (show w0.heap.size ≤ w.heap.size ∧ g < w.heap.size from ⟨hB.size, h.blk.2.1⟩)
  have HKW := Aside0.mk (KeepBut.of_below (below_alloc (Below.refl w.heap.size w) (.cells #[.int .i64 0, .int .u64 0, .slice none 0 0, .slice none 0 0] 26)) g none)
  have hu26 := Try.underlying26
  have hu81 := Try.underlying81
  obtain ⟨D, hD⟩ : ∃ D : Int, ((d + 1 : Nat) : Int) = D := ⟨_, rfl⟩
  rw [hD] at z9 HW1 ⊢
  obtain ⟨N, hN⟩ : ∃ k, kidT c = k := ⟨_, rfl⟩
  rw [hN] at z8 HE HKC HNL
  clear h hB ht hd hk hD ih hn hdt hN
  go_enter Try.func52, Try.ntmps52
  go_upto_region 10 with (first
    | (go_at_call 73; refine (Rf.takeO_ w0 _ g (some (c :: r)) 1 HS.out HB.out).mono ?_; rintro e w1 ⟨v, rfl, ho, hl⟩; rw [take1] at ho hl; obtain ⟨A5, c5, rfl, hl5, hr5⟩ := Ob.reads ho; obtain ⟨ad5, rfl, hc5⟩ := Rb.at0 hr5; have HL := Aside0.mk (show Rf.Left w0 w w1 g (some r) from ⟨hl.1, hl.2.1, HKW.out.trans hl.2.2 (.inl rfl)⟩); have H01 := Aside0.mk (H0.out.keep hl.2.2 (by have := HG.out; omega)); have hf1 := HL.out.1.fail.1; have hf2 := HL.out.1.fail.2; simp only [Option.isSome_some, Bool.not_true] at hf1; clear ho hl hl5 hr5)
    | (go_at_call 68; refine (HKC.out _).mono ?_; rintro e w3 ⟨rfl, hdr⟩; have HL4 := Aside0.mk (leftR_below HL.out (below_alloc (Drawn0.below hdr) (.cells #[.int .i64 c, .int .u64 0, .slice none 0 0, .slice none 0 0] 26))); have H04 := Aside0.mk ((H01.out.below (Drawn0.below hdr)).alloc (.cells #[.int .i64 c, .int .u64 0, .slice none 0 0, .slice none 0 0] 26)); have HT4 := Aside0.mk (show Blk (w3.alloc (.cells #[.int .i64 c, .int .u64 0, .slice none 0 0, .slice none 0 0] 26)) w3.heap.size 26 #[.int .i64 c, .int .u64 0, .slice none 0 0, .slice none 0 0] from blk_new _ _); have HZ3 := Aside0.mk (show w1.heap.size ≤ w3.heap.size from (Drawn0.below hdr).size); have hc6 := ((Drawn0.below hdr).cell (World.block_lt_of_cell? _ _ hc5)).trans hc5; clear hc5 hf1 hf2 hdr)
    | (go_at_call 65; refine (HNC.out _).mono ?_; rintro e w4 ⟨rfl, hdr⟩; have HL5 := Aside0.mk (leftR_below HL4.out (Drawn0.below hdr)); have H05 := Aside0.mk (H04.out.below (Drawn0.below hdr)); have HT5 := Aside0.mk (HT4.out.below (Drawn0.below hdr)); have x0 := (HT5.out).cell 0; have x1 := (HT5.out).cell 1; have x2 := (HT5.out).cell 2; have x3 := (HT5.out).cell 3; have v0 := blk_frozen (HT5.out) 0; have v1 := blk_frozen (HT5.out) 1; have v2 := blk_frozen (HT5.out) 2; have v3 := blk_frozen (HT5.out) 3; simp only [List.getElem?_toArray, List.getElem?_cons_zero, List.getElem?_cons_succ] at x0 x1 x2 x3; clear hdr)
    | (go_at_call 75; go_must (refine (Rf.textO_ w0 _ g (some r) 100 HL5.out.1 HL5.out.2.1 (by decide)).mono ?_; rintro e w5 ⟨v, rfl, ho, hl⟩; obtain ⟨A6, c6, rfl⟩ := Kd.R_slice ho; have HOD := Aside0.mk ho; have HT6 := Aside0.mk (HT5.out.keep hl.2.2 (by have := HG.out; have := HL.out.2.2.1; have := HZ3.out; omega)); have H06 := Aside0.mk (H05.out.keep hl.2.2 (by have := HG.out; omega)); have HL6 := Aside0.mk (HL5.out.trans hl); clear x0 x1 x2 x3 v0 v1 v2 v3; have x0 := (HT6.out).cell 0; have x1 := (HT6.out).cell 1; have x2 := (HT6.out).cell 2; have x3 := (HT6.out).cell 3; have v0 := blk_frozen (HT6.out) 0; have v1 := blk_frozen (HT6.out) 1; have v2 := blk_frozen (HT6.out) 2; have v3 := blk_frozen (HT6.out) 3; simp only [List.getElem?_toArray, List.getElem?_cons_zero, List.getElem?_cons_succ] at x0 x1 x2 x3; clear ho hl)))
  obtain ⟨W, hW⟩ : ∃ W, w5.setCell ⟨w3.heap.size, 2, none⟩ (.slice A6 (textO (some r) 100).1.length c6) = W := ⟨_, rfl⟩
  have HKD := Aside0.mk (show KidsR w0 w W g w3.heap.size c 0 (textO (some r) 100).1 [] ((textO (some r) 100).2) by rw [← hW]; exact ⟨.slice A6 (textO (some r) 100).1.length c6, .slice none 0 0, ⟨_, _, _, rfl⟩, ⟨_, _, _, rfl⟩, by have h := blk_set HT6.out 2 (.slice A6 (textO (some r) 100).1.length c6); simpa [Blk] using h, Kd.R_lower (Kd.R_set HOD.out HT6.out (by decide) 2 _) (by have := HT5.out.lt; omega), Kd.R_nil _ _ _ _ _, leftR_set1 HL6.out HT6.out (by simp [NoU8]) (by simp [NoU8]) (by simp [NoU8]) (by simp [NoU8]) (by have := HG.out; have := HL.out.2.2.1; have := HZ3.out; omega) (by have := HG.out; have := HL.out.2.2.1; have := HZ3.out; omega) (by have := HL.out.2.2.1; have := HZ3.out; omega) _, blk_far H06.out (by have := HG.out; have := HL.out.2.2.1; have := HZ3.out; have := H01.out.lt; dsimp only; omega) _⟩)
  rw [hW]
  have HGT := Aside0.mk (show w.heap.size < w3.heap.size by have := HL.out.2.2.1; have := HZ3.out; have := H01.out.lt; omega)
  obtain ⟨gt, hgt⟩ : ∃ k, w3.heap.size = k := ⟨_, rfl⟩
  rw [hgt] at HKD HGT ⊢
  obtain ⟨dv, hdv⟩ : ∃ k : List Int, (textO (some r) 100).1 = k := ⟨_, rfl⟩
  obtain ⟨s2, hs2⟩ : ∃ k : Option (List Int), (textO (some r) 100).2 = k := ⟨_, rfl⟩
  simp only [hdv, hs2] at HKD HE ⊢
  have hw9 := HW1.out
  have hw8 : IntKind.i64.wrap (D - 1) = (d : Int) := by have h := hw9; rw [IntKind.wrap_i64]; unfold wrap64 at h; omega
  clear hW hgt x0 x1 x2 x3 v0 v1 v2 v3 hc6
  go_wp2
  go_loopg [7] N (fun gf s7 wx => ∃ (i : Nat) (ks : List ST) (s : Option (List Int)) (wy : World), wy = wx ∧ s7 = .int .i64 (i : Int) ∧ i + gf = N ∧ ks.length ≤ i ∧ KidsR w0 w wy g gt c 0 dv ks s ∧ InvR d N s2 i ks s)
  case atStart => exact ⟨0, [], s2, _, rfl, rfl, by omega, by simp, HKD.out, inv_start d N s2⟩
  case round =>
    obtain ⟨i, ks, s, wx, rfl, rfl, hi, hkl, ⟨v2, v3, ⟨A2, n2, c2, rfl⟩, ⟨A3, n3, c3, rfl⟩, hT, hO, hR, hL, h0⟩, hIv⟩ := hrel
    have HQ := Aside0.mk hi; have HLK := Aside0.mk hkl; have HT := Aside0.mk hT; have HO := Aside0.mk hO; have HR := Aside0.mk hR; have HL := Aside0.mk hL; have H0 := Aside0.mk h0; have HIV := Aside0.mk hIv
    have x0 := HT.out.cell 0; simp only [List.getElem?_toArray, List.getElem?_cons_zero, List.getElem?_cons_succ] at x0
    clear hi hkl hT hO hR hL h0 hIv HKD
    by_cases hlt : i < N
    · have hl1 : decide ((i : Int) < (N : Int)) = true := decide_eq_true (by omega)
      cases s with
      | none =>
        go_wp2_with (go_at_call 68; refine (HKC.out _).mono ?_; rintro e w6 ⟨rfl, hdr⟩; have HT' := Aside0.mk (HT.out.below (Drawn0.below hdr)); have H0' := Aside0.mk (H0.out.below (Drawn0.below hdr)); have HL' := Aside0.mk (leftR_below HL.out (Drawn0.below hdr)); have HO' := Aside0.mk (Kd.R_below HO.out (Drawn0.below hdr)); have HR' := Aside0.mk (Kd.R_below HR.out (Drawn0.below hdr)); have hf1 := HL'.out.1.fail.1; have hf2 := HL'.out.1.fail.2; simp only [Option.isSome_some, Option.isSome_none, Bool.not_true, Bool.not_false] at hf1; clear x0; have x0 := (HT'.out).cell 0; have x1 := (HT'.out).cell 1; have x2 := (HT'.out).cell 2; have x3 := (HT'.out).cell 3; have v0 := blk_frozen (HT'.out) 0; have v1 := blk_frozen (HT'.out) 1; have v2 := blk_frozen (HT'.out) 2; have v3 := blk_frozen (HT'.out) 3; simp only [List.getElem?_toArray, List.getElem?_cons_zero, List.getElem?_cons_succ] at x0 x1 x2 x3; have z0 := (H0'.out).cell 0; have z1 := (H0'.out).cell 1; have z2 := (H0'.out).cell 2; have z3 := (H0'.out).cell 3; have y0 := blk_frozen (H0'.out) 0; have y1 := blk_frozen (H0'.out) 1; have y2 := blk_frozen (H0'.out) 2; have y3 := blk_frozen (H0'.out) 3; simp only [List.getElem?_toArray, List.getElem?_cons_zero, List.getElem?_cons_succ] at z0 z1 z2 z3; clear hdr)
        refine bodyPost_ret (results_cell_row rfl _ _ w.heap.size 26 #[.int .i64 c, .int .u64 0, .slice A2 n2 c2, .slice A3 n3 c3] (0, 0) _ rfl (set4 H0'.out _ _ _ _) Try.underlying26 rfl (by kernel_rfl)) rfl ?_
        have hko := kidsR_out HO'.out HR'.out (fun _ h => h.2) HL'.out H0'.out HG.out HGT.out (.int .i64 c) (.int .u64 0) (.slice A2 n2 c2) (.slice A3 n3 c3)
        refine ⟨⟨c, 0, dv, ks⟩, .slice A2 n2 c2, .slice A3 n3 c3, none, rfl, hko.1, hko.2.1, hko.2.2, ?_⟩
        rw [HE.out]
        exact inv_end HIV.out (.inr rfl) c 0 dv
      | some r' =>
        have hw1 : wrap64 ((i : Int) + 1) = ((i + 1 : Nat) : Int) := by have := HNL.out; rw [Aid.w64 (by omega) (by omega)]; omega
        have HLN := Aside0.mk (show (ks.length + 1) * 64 ≤ 140737488355328 by have := HLK.out; have := HQ.out; have := HNL.out; omega)
        go_wp2_with (go_at_call 68; refine (HKC.out _).mono ?_; rintro e w6 ⟨rfl, hdr⟩; have HT' := Aside0.mk (HT.out.below (Drawn0.below hdr)); have H0' := Aside0.mk (H0.out.below (Drawn0.below hdr)); have HL' := Aside0.mk (leftR_below HL.out (Drawn0.below hdr)); have HO' := Aside0.mk (Kd.R_below HO.out (Drawn0.below hdr)); have HR' := Aside0.mk (Kd.R_below HR.out (Drawn0.below hdr)); have hf1 := HL'.out.1.fail.1; have hf2 := HL'.out.1.fail.2; simp only [Option.isSome_some, Option.isSome_none, Bool.not_true, Bool.not_false] at hf1; clear x0; have x0 := (HT'.out).cell 0; have x1 := (HT'.out).cell 1; have x2 := (HT'.out).cell 2; have x3 := (HT'.out).cell 3; have v0 := blk_frozen (HT'.out) 0; have v1 := blk_frozen (HT'.out) 1; have v2 := blk_frozen (HT'.out) 2; have v3 := blk_frozen (HT'.out) 3; simp only [List.getElem?_toArray, List.getElem?_cons_zero, List.getElem?_cons_succ] at x0 x1 x2 x3; have X0 := ((HT'.out.below (below_drew1 (Below.refl _ _)))).cell 0; have X1 := ((HT'.out.below (below_drew1 (Below.refl _ _)))).cell 1; have X2 := ((HT'.out.below (below_drew1 (Below.refl _ _)))).cell 2; have X3 := ((HT'.out.below (below_drew1 (Below.refl _ _)))).cell 3; have V0 := blk_frozen ((HT'.out.below (below_drew1 (Below.refl _ _)))) 0; have V1 := blk_frozen ((HT'.out.below (below_drew1 (Below.refl _ _)))) 1; have V2 := blk_frozen ((HT'.out.below (below_drew1 (Below.refl _ _)))) 2; have V3 := blk_frozen ((HT'.out.below (below_drew1 (Below.refl _ _)))) 3; simp only [List.getElem?_toArray, List.getElem?_cons_zero, List.getElem?_cons_succ] at X0 X1 X2 X3; clear hdr)
        have HCD := Aside0.mk (HIH.out w0 w6.drew g (some r') (HL'.out.1.below (below_drew1 (Below.refl _ _))) (below_drew1 HL'.out.2.1))
        go_region_law (first
          | (go_simp; go_at_call 52; refine HCD.out.mono ?_; rintro e w7 ⟨y, q2, q3, st, rfl, ho2, ho3, hl, hm⟩; obtain ⟨B2, e2, rfl⟩ := Kd.R_slice ho2; obtain ⟨B3, e3, rfl⟩ := Kd.R_slice ho3
             have HKW6 := Aside0.mk ((KeepBut.of_below (below_drew1 (Below.refl w6.heap.size w6)) g none).trans hl.2.2 (.inl rfl))
             have HL7 := Aside0.mk (show Rf.Left w0 w w7 g st from ⟨hl.1, hl.2.1, HL'.out.2.2.trans HKW6.out (.inl rfl)⟩)
             have HT7 := Aside0.mk (HT'.out.keep HKW6.out (by have := HG.out; have := HGT.out; omega)); have H07 := Aside0.mk (H0'.out.keep HKW6.out (by have := HG.out; omega))
             have HO7 := Aside0.mk (rowR_keep HL'.out.1 HO'.out HKW6.out); have HR7 := Aside0.mk (Kd.R_keep HR'.out HKW6.out (fun _ h => h.1.1))
             have HM := Aside0.mk (k26_mkM _ (gt + 1) (fun k => w6.heap.size ≤ k) y (Kd.R_mono (Kd.R_lower (Kd.R_bound ho2) (show gt + 1 ≤ w6.drew.heap.size from HT'.out.lt)) (fun _ h => h.2.1)) (Kd.R_mono (Kd.R_lower (Kd.R_bound ho3) (show gt + 1 ≤ w6.drew.heap.size from HT'.out.lt)) (fun _ h => h.2.1)))
             have HOK := Aside0.mk (show ∀ k, w6.heap.size ≤ k → ((k ≠ g ∧ k ≠ gt) ∧ some k ≠ (Value.slice A2 n2 c2).ownBlock) ∧ some k ≠ (Value.slice A3 n3 c3).ownBlock from fun k hk => ⟨⟨⟨by have := HG.out; have := HT'.out.lt; have := HGT.out; omega, by have := HT'.out.lt; omega⟩, fun e => by have := Kd.R_lt HO'.out k e.symm; omega⟩, fun e => by have := Kd.R_lt HR'.out k e.symm; omega⟩)
             have HSZ := Aside0.mk (show gt + 1 ≤ w7.heap.size from HT7.out.lt)
             have HFR := Aside0.mk (show ∀ k, w7.heap.size ≤ k → (k ≠ g ∧ k ≠ gt) ∧ some k ≠ (Value.slice A2 n2 c2).ownBlock from fun k hk => ⟨⟨by have := HG.out; have := HGT.out; have := HSZ.out; omega, by have := HSZ.out; omega⟩, fun e => by have := Kd.R_lt HO7.out k e.symm; omega⟩)
             have HIN := Aside0.mk (inv_next HIV.out hlt hm)
             have t5_ := fun o => (HT7.out.alloc o).cell 3; have t3_ := HT7.out.cell 3; have f3_ := blk_frozen HT7.out 3; simp only [List.getElem?_toArray, List.getElem?_cons_zero, List.getElem?_cons_succ] at t3_ t5_
             clear ho2 ho3 hl hm)
          | (go_must (refine Kd.R_append_step k26 (gt + 1) rfl (.tmp 62) (.tmp 67) 24 26 (.agg #[.int .i64 0, .int .u64 0, .slice none 0 0, .slice none 0 0]) 64 rfl Try.underlying24 info_t rfl (by decide) (by decide) _ ks y _ (fun k => (k ≠ g ∧ k ≠ gt) ∧ some k ≠ (Value.slice A2 n2 c2).ownBlock) (fun k => w6.heap.size ≤ k) rfl (by first | rfl | (rw [size_alloc]; rfl)) HM.out HOK.out HFR.out HR7.out (Below.refl _ _) HSZ.out HLN.out ?_); intro v1 w8 hr1 hb1 hg1 _; obtain ⟨A9, c9, rfl⟩ := Kd.R_slice hr1; have HMORE := Aside0.mk (kidsR_more HT7.out HO7.out HR7.out HL7.out H07.out hr1 hb1 hg1 HG.out HGT.out); have t3__ := blk_frozen HMORE.out.1 3; have t4__ := HMORE.out.1.cell 3; simp only [List.getElem?_toArray, List.getElem?_cons_zero, List.getElem?_cons_succ] at t4__; clear hr1 hb1 hg1))
        all_goals
          go_wp2_with (fail)
          go_roundg (N - (i + 1))
          case measure => have := HQ.out; omega
          case rel => exact ⟨i + 1, ks ++ [y], st, _, rfl, by first | rfl | rw [hw1], by omega, by have := HLK.out; rw [List.length_append, List.length_singleton]; omega, by have hm := HMORE.out.2; rw [List.length_append] at hm; exact hm, HIN.out⟩
    · have hl1 : decide ((i : Int) < (N : Int)) = false := decide_eq_false (by omega)
      cases s with
      | none =>
        go_wp2_with (go_at_call 68; refine (HKC.out _).mono ?_; rintro e w6 ⟨rfl, hdr⟩; have HT' := Aside0.mk (HT.out.below (Drawn0.below hdr)); have H0' := Aside0.mk (H0.out.below (Drawn0.below hdr)); have HL' := Aside0.mk (leftR_below HL.out (Drawn0.below hdr)); have HO' := Aside0.mk (Kd.R_below HO.out (Drawn0.below hdr)); have HR' := Aside0.mk (Kd.R_below HR.out (Drawn0.below hdr)); have hf1 := HL'.out.1.fail.1; have hf2 := HL'.out.1.fail.2; simp only [Option.isSome_some, Option.isSome_none, Bool.not_true, Bool.not_false] at hf1; clear x0; have x0 := (HT'.out).cell 0; have x1 := (HT'.out).cell 1; have x2 := (HT'.out).cell 2; have x3 := (HT'.out).cell 3; have v0 := blk_frozen (HT'.out) 0; have v1 := blk_frozen (HT'.out) 1; have v2 := blk_frozen (HT'.out) 2; have v3 := blk_frozen (HT'.out) 3; simp only [List.getElem?_toArray, List.getElem?_cons_zero, List.getElem?_cons_succ] at x0 x1 x2 x3; have z0 := (H0'.out).cell 0; have z1 := (H0'.out).cell 1; have z2 := (H0'.out).cell 2; have z3 := (H0'.out).cell 3; have y0 := blk_frozen (H0'.out) 0; have y1 := blk_frozen (H0'.out) 1; have y2 := blk_frozen (H0'.out) 2; have y3 := blk_frozen (H0'.out) 3; simp only [List.getElem?_toArray, List.getElem?_cons_zero, List.getElem?_cons_succ] at z0 z1 z2 z3; clear hdr)
        refine bodyPost_ret (results_cell_row rfl _ _ w.heap.size 26 #[.int .i64 c, .int .u64 0, .slice A2 n2 c2, .slice A3 n3 c3] (0, 0) _ rfl (set4 H0'.out _ _ _ _) Try.underlying26 rfl (by kernel_rfl)) rfl ?_
        have hko := kidsR_out HO'.out HR'.out (fun _ h => h.2) HL'.out H0'.out HG.out HGT.out (.int .i64 c) (.int .u64 0) (.slice A2 n2 c2) (.slice A3 n3 c3)
        refine ⟨⟨c, 0, dv, ks⟩, .slice A2 n2 c2, .slice A3 n3 c3, none, rfl, hko.1, hko.2.1, hko.2.2, ?_⟩
        rw [HE.out]
        exact inv_end HIV.out (.inr rfl) c 0 dv
      | some r' =>
        go_wp2_with (go_at_call 68; refine (HKC.out _).mono ?_; rintro e w6 ⟨rfl, hdr⟩; have HT' := Aside0.mk (HT.out.below (Drawn0.below hdr)); have H0' := Aside0.mk (H0.out.below (Drawn0.below hdr)); have HL' := Aside0.mk (leftR_below HL.out (Drawn0.below hdr)); have HO' := Aside0.mk (Kd.R_below HO.out (Drawn0.below hdr)); have HR' := Aside0.mk (Kd.R_below HR.out (Drawn0.below hdr)); have hf1 := HL'.out.1.fail.1; have hf2 := HL'.out.1.fail.2; simp only [Option.isSome_some, Option.isSome_none, Bool.not_true, Bool.not_false] at hf1; clear x0; have x0 := (HT'.out).cell 0; have x1 := (HT'.out).cell 1; have x2 := (HT'.out).cell 2; have x3 := (HT'.out).cell 3; have v0 := blk_frozen (HT'.out) 0; have v1 := blk_frozen (HT'.out) 1; have v2 := blk_frozen (HT'.out) 2; have v3 := blk_frozen (HT'.out) 3; simp only [List.getElem?_toArray, List.getElem?_cons_zero, List.getElem?_cons_succ] at x0 x1 x2 x3; have z0 := (H0'.out).cell 0; have z1 := (H0'.out).cell 1; have z2 := (H0'.out).cell 2; have z3 := (H0'.out).cell 3; have y0 := blk_frozen (H0'.out) 0; have y1 := blk_frozen (H0'.out) 1; have y2 := blk_frozen (H0'.out) 2; have y3 := blk_frozen (H0'.out) 3; simp only [List.getElem?_toArray, List.getElem?_cons_zero, List.getElem?_cons_succ] at z0 z1 z2 z3; clear hdr)
        refine bodyPost_ret (results_cell_row rfl _ _ w.heap.size 26 #[.int .i64 c, .int .u64 0, .slice A2 n2 c2, .slice A3 n3 c3] (0, 0) _ rfl (set4 H0'.out _ _ _ _) Try.underlying26 rfl (by kernel_rfl)) rfl ?_
        have hko := kidsR_out HO'.out HR'.out (fun _ h => h.2) HL'.out H0'.out HG.out HGT.out (.int .i64 c) (.int .u64 0) (.slice A2 n2 c2) (.slice A3 n3 c3)
        refine ⟨⟨c, 0, dv, ks⟩, .slice A2 n2 c2, .slice A3 n3 c3, some r', rfl, hko.1, hko.2.1, hko.2.2, ?_⟩
        rw [HE.out]
        exact inv_end HIV.out (.inl (by omega)) c 0 dv
set_option maxHeartbeats 8000000 in
set_option maxRecDepth 100000 in
theorem rread_oth (d : Nat) (hd : d + 1 ≤ 8) (ih : ∀ w0 w g st, Rf.RfO w0 w g st → Below w0.heap.size w0 w → Calls Try.prog 52 #[.pointer (some ⟨g, 0, none⟩), .int .i64 (d : Int)] w (ReadR w0 w g (readT d st))) (w0 w : World) (g : Nat) (c : Int) (r : List Int) (h : Rf.RfO w0 w g (some (c :: r))) (hB : Below w0.heap.size w0 w) (ht : thereB c = true) (hn : numT c = false) (hdt : datT c = false) :
    Calls Try.prog 52 #[.pointer (some ⟨g, 0, none⟩), .int .i64 ((d + 1 : Nat) : Int)] w (ReadR w0 w g (readT (d + 1) (some (c :: r)))) := by
  have HE := Aside0.mk (show readT (d + 1) (some (c :: r)) = match readK (readT d) (kidT c) ((some r)) with
      | some (ks, some s) => some (⟨c, 0, [], ks⟩, s)
      | _ => none by
    rw [readT, take1]
    simp only [List.getD_cons_zero]
    rw [if_pos ht]
    unfold datR numR
    rw [hn, hdt]
    rfl)
  have hk := kids_calls c
  rw [if_pos ht] at hk
  have HKC := Aside0.mk hk
  have HNC := Aside0.mk (fun w => hanaperref05_number.calls c false w (by rw [number_v, hn]))
  have HIH := Aside0.mk ih
  have HD8 := Aside0.mk hd
  have hc0 := (show 0 ≤ c ∧ c ≤ 255 from h.u8.1.head).1
  have hc1 := (show 0 ≤ c ∧ c ≤ 255 from h.u8.1.head).2
  have z9 : decide (((d + 1 : Nat) : Int) < 1) = false := decide_eq_false (by omega)
  have z8 : decide ((kidT c : Int) < 0) = false := decide_eq_false (by omega)
  have z7 : (c == 3) = false := by rw [← hdt]; rfl
  have HW1 := Aside0.mk (show wrap64 (((d + 1 : Nat) : Int) - 1) = (d : Int) from dec_i (by omega))
  have HNL := Aside0.mk (kid_len c)
  have HB := Aside0.mk (below_step hB (below_alloc (Below.refl w.heap.size w) (.cells #[.int .i64 0, .int .u64 0, .slice none 0 0, .slice none 0 0] 26)))
  have HS := Aside0.mk (h.below (below_alloc (Below.refl w.heap.size w) (.cells #[.int .i64 0, .int .u64 0, .slice none 0 0, .slice none 0 0] 26)))
  have H0 := Aside0.mk (show Blk (w.alloc (.cells #[.int .i64 0, .int .u64 0, .slice none 0 0, .slice none 0 0] 26)) w.heap.size 26 #[.int .i64 0, .int .u64 0, .slice none 0 0, .slice none 0 0] from blk_new _ _)
  have HG := Aside0.mk (show w0.heap.size ≤ w.heap.size ∧ g < w.heap.size from ⟨hB.size, h.blk.2.1⟩)
  have HKW := Aside0.mk (KeepBut.of_below (below_alloc (Below.refl w.heap.size w) (.cells #[.int .i64 0, .int .u64 0, .slice none 0 0, .slice none 0 0] 26)) g none)
  have hu26 := Try.underlying26
  have hu81 := Try.underlying81
  obtain ⟨D, hD⟩ : ∃ D : Int, ((d + 1 : Nat) : Int) = D := ⟨_, rfl⟩
  rw [hD] at z9 HW1 ⊢
  obtain ⟨N, hN⟩ : ∃ k, kidT c = k := ⟨_, rfl⟩
  rw [hN] at z8 HE HKC HNL
  clear h hB ht hd hk hD ih hn hdt hN
  go_enter Try.func52, Try.ntmps52
  go_upto_region 10 with (first
    | (go_at_call 73; refine (Rf.takeO_ w0 _ g (some (c :: r)) 1 HS.out HB.out).mono ?_; rintro e w1 ⟨v, rfl, ho, hl⟩; rw [take1] at ho hl; obtain ⟨A5, c5, rfl, hl5, hr5⟩ := Ob.reads ho; obtain ⟨ad5, rfl, hc5⟩ := Rb.at0 hr5; have HL := Aside0.mk (show Rf.Left w0 w w1 g (some r) from ⟨hl.1, hl.2.1, HKW.out.trans hl.2.2 (.inl rfl)⟩); have H01 := Aside0.mk (H0.out.keep hl.2.2 (by have := HG.out; omega)); have hf1 := HL.out.1.fail.1; have hf2 := HL.out.1.fail.2; simp only [Option.isSome_some, Bool.not_true] at hf1; clear ho hl hl5 hr5)
    | (go_at_call 68; refine (HKC.out _).mono ?_; rintro e w3 ⟨rfl, hdr⟩; have HL4 := Aside0.mk (leftR_below HL.out (below_alloc (Drawn0.below hdr) (.cells #[.int .i64 c, .int .u64 0, .slice none 0 0, .slice none 0 0] 26))); have H04 := Aside0.mk ((H01.out.below (Drawn0.below hdr)).alloc (.cells #[.int .i64 c, .int .u64 0, .slice none 0 0, .slice none 0 0] 26)); have HT4 := Aside0.mk (show Blk (w3.alloc (.cells #[.int .i64 c, .int .u64 0, .slice none 0 0, .slice none 0 0] 26)) w3.heap.size 26 #[.int .i64 c, .int .u64 0, .slice none 0 0, .slice none 0 0] from blk_new _ _); have HZ3 := Aside0.mk (show w1.heap.size ≤ w3.heap.size from (Drawn0.below hdr).size); have hc6 := ((Drawn0.below hdr).cell (World.block_lt_of_cell? _ _ hc5)).trans hc5; clear hc5 hf1 hf2 hdr)
    | (go_at_call 65; refine (HNC.out _).mono ?_; rintro e w4 ⟨rfl, hdr⟩; have HL5 := Aside0.mk (leftR_below HL4.out (Drawn0.below hdr)); have H05 := Aside0.mk (H04.out.below (Drawn0.below hdr)); have HT5 := Aside0.mk (HT4.out.below (Drawn0.below hdr)); have x0 := (HT5.out).cell 0; have x1 := (HT5.out).cell 1; have x2 := (HT5.out).cell 2; have x3 := (HT5.out).cell 3; have v0 := blk_frozen (HT5.out) 0; have v1 := blk_frozen (HT5.out) 1; have v2 := blk_frozen (HT5.out) 2; have v3 := blk_frozen (HT5.out) 3; simp only [List.getElem?_toArray, List.getElem?_cons_zero, List.getElem?_cons_succ] at x0 x1 x2 x3; clear hdr))
  obtain ⟨W, hW⟩ : ∃ W, w4 = W := ⟨_, rfl⟩
  have HKD := Aside0.mk (show KidsR w0 w W g w3.heap.size c 0 [] [] ((some r)) by rw [← hW]; exact ⟨.slice none 0 0, .slice none 0 0, ⟨_, _, _, rfl⟩, ⟨_, _, _, rfl⟩, HT5.out, Kd.R_nil _ _ _ _ _, Kd.R_nil _ _ _ _ _, HL5.out, H05.out⟩)
  rw [hW]
  have HGT := Aside0.mk (show w.heap.size < w3.heap.size by have := HL.out.2.2.1; have := HZ3.out; have := H01.out.lt; omega)
  obtain ⟨gt, hgt⟩ : ∃ k, w3.heap.size = k := ⟨_, rfl⟩
  rw [hgt] at HKD HGT ⊢
  obtain ⟨s2, hs2⟩ : ∃ k : Option (List Int), (some r) = k := ⟨_, rfl⟩
  simp only [hs2] at HKD HE ⊢
  have hw9 := HW1.out
  have hw8 : IntKind.i64.wrap (D - 1) = (d : Int) := by have h := hw9; rw [IntKind.wrap_i64]; unfold wrap64 at h; omega
  clear hW hgt x0 x1 x2 x3 v0 v1 v2 v3 hc6
  go_wp2
  go_loopg [7] N (fun gf s7 wx => ∃ (i : Nat) (ks : List ST) (s : Option (List Int)) (wy : World), wy = wx ∧ s7 = .int .i64 (i : Int) ∧ i + gf = N ∧ ks.length ≤ i ∧ KidsR w0 w wy g gt c 0 [] ks s ∧ InvR d N s2 i ks s)
  case atStart => exact ⟨0, [], s2, _, rfl, rfl, by omega, by simp, HKD.out, inv_start d N s2⟩
  case round =>
    obtain ⟨i, ks, s, wx, rfl, rfl, hi, hkl, ⟨v2, v3, ⟨A2, n2, c2, rfl⟩, ⟨A3, n3, c3, rfl⟩, hT, hO, hR, hL, h0⟩, hIv⟩ := hrel
    have HQ := Aside0.mk hi; have HLK := Aside0.mk hkl; have HT := Aside0.mk hT; have HO := Aside0.mk hO; have HR := Aside0.mk hR; have HL := Aside0.mk hL; have H0 := Aside0.mk h0; have HIV := Aside0.mk hIv
    have x0 := HT.out.cell 0; simp only [List.getElem?_toArray, List.getElem?_cons_zero, List.getElem?_cons_succ] at x0
    clear hi hkl hT hO hR hL h0 hIv HKD
    by_cases hlt : i < N
    · have hl1 : decide ((i : Int) < (N : Int)) = true := decide_eq_true (by omega)
      cases s with
      | none =>
        go_wp2_with (go_at_call 68; refine (HKC.out _).mono ?_; rintro e w6 ⟨rfl, hdr⟩; have HT' := Aside0.mk (HT.out.below (Drawn0.below hdr)); have H0' := Aside0.mk (H0.out.below (Drawn0.below hdr)); have HL' := Aside0.mk (leftR_below HL.out (Drawn0.below hdr)); have HO' := Aside0.mk (Kd.R_below HO.out (Drawn0.below hdr)); have HR' := Aside0.mk (Kd.R_below HR.out (Drawn0.below hdr)); have hf1 := HL'.out.1.fail.1; have hf2 := HL'.out.1.fail.2; simp only [Option.isSome_some, Option.isSome_none, Bool.not_true, Bool.not_false] at hf1; clear x0; have x0 := (HT'.out).cell 0; have x1 := (HT'.out).cell 1; have x2 := (HT'.out).cell 2; have x3 := (HT'.out).cell 3; have v0 := blk_frozen (HT'.out) 0; have v1 := blk_frozen (HT'.out) 1; have v2 := blk_frozen (HT'.out) 2; have v3 := blk_frozen (HT'.out) 3; simp only [List.getElem?_toArray, List.getElem?_cons_zero, List.getElem?_cons_succ] at x0 x1 x2 x3; have z0 := (H0'.out).cell 0; have z1 := (H0'.out).cell 1; have z2 := (H0'.out).cell 2; have z3 := (H0'.out).cell 3; have y0 := blk_frozen (H0'.out) 0; have y1 := blk_frozen (H0'.out) 1; have y2 := blk_frozen (H0'.out) 2; have y3 := blk_frozen (H0'.out) 3; simp only [List.getElem?_toArray, List.getElem?_cons_zero, List.getElem?_cons_succ] at z0 z1 z2 z3; clear hdr)
        refine bodyPost_ret (results_cell_row rfl _ _ w.heap.size 26 #[.int .i64 c, .int .u64 0, .slice A2 n2 c2, .slice A3 n3 c3] (0, 0) _ rfl (set4 H0'.out _ _ _ _) Try.underlying26 rfl (by kernel_rfl)) rfl ?_
        have hko := kidsR_out HO'.out HR'.out (fun _ h => h.2) HL'.out H0'.out HG.out HGT.out (.int .i64 c) (.int .u64 0) (.slice A2 n2 c2) (.slice A3 n3 c3)
        refine ⟨⟨c, 0, [], ks⟩, .slice A2 n2 c2, .slice A3 n3 c3, none, rfl, hko.1, hko.2.1, hko.2.2, ?_⟩
        rw [HE.out]
        exact inv_end HIV.out (.inr rfl) c 0 []
      | some r' =>
        have hw1 : wrap64 ((i : Int) + 1) = ((i + 1 : Nat) : Int) := by have := HNL.out; rw [Aid.w64 (by omega) (by omega)]; omega
        have HLN := Aside0.mk (show (ks.length + 1) * 64 ≤ 140737488355328 by have := HLK.out; have := HQ.out; have := HNL.out; omega)
        go_wp2_with (go_at_call 68; refine (HKC.out _).mono ?_; rintro e w6 ⟨rfl, hdr⟩; have HT' := Aside0.mk (HT.out.below (Drawn0.below hdr)); have H0' := Aside0.mk (H0.out.below (Drawn0.below hdr)); have HL' := Aside0.mk (leftR_below HL.out (Drawn0.below hdr)); have HO' := Aside0.mk (Kd.R_below HO.out (Drawn0.below hdr)); have HR' := Aside0.mk (Kd.R_below HR.out (Drawn0.below hdr)); have hf1 := HL'.out.1.fail.1; have hf2 := HL'.out.1.fail.2; simp only [Option.isSome_some, Option.isSome_none, Bool.not_true, Bool.not_false] at hf1; clear x0; have x0 := (HT'.out).cell 0; have x1 := (HT'.out).cell 1; have x2 := (HT'.out).cell 2; have x3 := (HT'.out).cell 3; have v0 := blk_frozen (HT'.out) 0; have v1 := blk_frozen (HT'.out) 1; have v2 := blk_frozen (HT'.out) 2; have v3 := blk_frozen (HT'.out) 3; simp only [List.getElem?_toArray, List.getElem?_cons_zero, List.getElem?_cons_succ] at x0 x1 x2 x3; have X0 := ((HT'.out.below (below_drew1 (Below.refl _ _)))).cell 0; have X1 := ((HT'.out.below (below_drew1 (Below.refl _ _)))).cell 1; have X2 := ((HT'.out.below (below_drew1 (Below.refl _ _)))).cell 2; have X3 := ((HT'.out.below (below_drew1 (Below.refl _ _)))).cell 3; have V0 := blk_frozen ((HT'.out.below (below_drew1 (Below.refl _ _)))) 0; have V1 := blk_frozen ((HT'.out.below (below_drew1 (Below.refl _ _)))) 1; have V2 := blk_frozen ((HT'.out.below (below_drew1 (Below.refl _ _)))) 2; have V3 := blk_frozen ((HT'.out.below (below_drew1 (Below.refl _ _)))) 3; simp only [List.getElem?_toArray, List.getElem?_cons_zero, List.getElem?_cons_succ] at X0 X1 X2 X3; clear hdr)
        have HCD := Aside0.mk (HIH.out w0 w6.drew g (some r') (HL'.out.1.below (below_drew1 (Below.refl _ _))) (below_drew1 HL'.out.2.1))
        go_region_law (first
          | (go_simp; go_at_call 52; refine HCD.out.mono ?_; rintro e w7 ⟨y, q2, q3, st, rfl, ho2, ho3, hl, hm⟩; obtain ⟨B2, e2, rfl⟩ := Kd.R_slice ho2; obtain ⟨B3, e3, rfl⟩ := Kd.R_slice ho3
             have HKW6 := Aside0.mk ((KeepBut.of_below (below_drew1 (Below.refl w6.heap.size w6)) g none).trans hl.2.2 (.inl rfl))
             have HL7 := Aside0.mk (show Rf.Left w0 w w7 g st from ⟨hl.1, hl.2.1, HL'.out.2.2.trans HKW6.out (.inl rfl)⟩)
             have HT7 := Aside0.mk (HT'.out.keep HKW6.out (by have := HG.out; have := HGT.out; omega)); have H07 := Aside0.mk (H0'.out.keep HKW6.out (by have := HG.out; omega))
             have HO7 := Aside0.mk (rowR_keep HL'.out.1 HO'.out HKW6.out); have HR7 := Aside0.mk (Kd.R_keep HR'.out HKW6.out (fun _ h => h.1.1))
             have HM := Aside0.mk (k26_mkM _ (gt + 1) (fun k => w6.heap.size ≤ k) y (Kd.R_mono (Kd.R_lower (Kd.R_bound ho2) (show gt + 1 ≤ w6.drew.heap.size from HT'.out.lt)) (fun _ h => h.2.1)) (Kd.R_mono (Kd.R_lower (Kd.R_bound ho3) (show gt + 1 ≤ w6.drew.heap.size from HT'.out.lt)) (fun _ h => h.2.1)))
             have HOK := Aside0.mk (show ∀ k, w6.heap.size ≤ k → ((k ≠ g ∧ k ≠ gt) ∧ some k ≠ (Value.slice A2 n2 c2).ownBlock) ∧ some k ≠ (Value.slice A3 n3 c3).ownBlock from fun k hk => ⟨⟨⟨by have := HG.out; have := HT'.out.lt; have := HGT.out; omega, by have := HT'.out.lt; omega⟩, fun e => by have := Kd.R_lt HO'.out k e.symm; omega⟩, fun e => by have := Kd.R_lt HR'.out k e.symm; omega⟩)
             have HSZ := Aside0.mk (show gt + 1 ≤ w7.heap.size from HT7.out.lt)
             have HFR := Aside0.mk (show ∀ k, w7.heap.size ≤ k → (k ≠ g ∧ k ≠ gt) ∧ some k ≠ (Value.slice A2 n2 c2).ownBlock from fun k hk => ⟨⟨by have := HG.out; have := HGT.out; have := HSZ.out; omega, by have := HSZ.out; omega⟩, fun e => by have := Kd.R_lt HO7.out k e.symm; omega⟩)
             have HIN := Aside0.mk (inv_next HIV.out hlt hm)
             have t5_ := fun o => (HT7.out.alloc o).cell 3; have t3_ := HT7.out.cell 3; have f3_ := blk_frozen HT7.out 3; simp only [List.getElem?_toArray, List.getElem?_cons_zero, List.getElem?_cons_succ] at t3_ t5_
             clear ho2 ho3 hl hm)
          | (go_must (refine Kd.R_append_step k26 (gt + 1) rfl (.tmp 62) (.tmp 67) 24 26 (.agg #[.int .i64 0, .int .u64 0, .slice none 0 0, .slice none 0 0]) 64 rfl Try.underlying24 info_t rfl (by decide) (by decide) _ ks y _ (fun k => (k ≠ g ∧ k ≠ gt) ∧ some k ≠ (Value.slice A2 n2 c2).ownBlock) (fun k => w6.heap.size ≤ k) rfl (by first | rfl | (rw [size_alloc]; rfl)) HM.out HOK.out HFR.out HR7.out (Below.refl _ _) HSZ.out HLN.out ?_); intro v1 w8 hr1 hb1 hg1 _; obtain ⟨A9, c9, rfl⟩ := Kd.R_slice hr1; have HMORE := Aside0.mk (kidsR_more HT7.out HO7.out HR7.out HL7.out H07.out hr1 hb1 hg1 HG.out HGT.out); have t3__ := blk_frozen HMORE.out.1 3; have t4__ := HMORE.out.1.cell 3; simp only [List.getElem?_toArray, List.getElem?_cons_zero, List.getElem?_cons_succ] at t4__; clear hr1 hb1 hg1))
        all_goals
          go_wp2_with (fail)
          go_roundg (N - (i + 1))
          case measure => have := HQ.out; omega
          case rel => exact ⟨i + 1, ks ++ [y], st, _, rfl, by first | rfl | rw [hw1], by omega, by have := HLK.out; rw [List.length_append, List.length_singleton]; omega, by have hm := HMORE.out.2; rw [List.length_append] at hm; exact hm, HIN.out⟩
    · have hl1 : decide ((i : Int) < (N : Int)) = false := decide_eq_false (by omega)
      cases s with
      | none =>
        go_wp2_with (go_at_call 68; refine (HKC.out _).mono ?_; rintro e w6 ⟨rfl, hdr⟩; have HT' := Aside0.mk (HT.out.below (Drawn0.below hdr)); have H0' := Aside0.mk (H0.out.below (Drawn0.below hdr)); have HL' := Aside0.mk (leftR_below HL.out (Drawn0.below hdr)); have HO' := Aside0.mk (Kd.R_below HO.out (Drawn0.below hdr)); have HR' := Aside0.mk (Kd.R_below HR.out (Drawn0.below hdr)); have hf1 := HL'.out.1.fail.1; have hf2 := HL'.out.1.fail.2; simp only [Option.isSome_some, Option.isSome_none, Bool.not_true, Bool.not_false] at hf1; clear x0; have x0 := (HT'.out).cell 0; have x1 := (HT'.out).cell 1; have x2 := (HT'.out).cell 2; have x3 := (HT'.out).cell 3; have v0 := blk_frozen (HT'.out) 0; have v1 := blk_frozen (HT'.out) 1; have v2 := blk_frozen (HT'.out) 2; have v3 := blk_frozen (HT'.out) 3; simp only [List.getElem?_toArray, List.getElem?_cons_zero, List.getElem?_cons_succ] at x0 x1 x2 x3; have z0 := (H0'.out).cell 0; have z1 := (H0'.out).cell 1; have z2 := (H0'.out).cell 2; have z3 := (H0'.out).cell 3; have y0 := blk_frozen (H0'.out) 0; have y1 := blk_frozen (H0'.out) 1; have y2 := blk_frozen (H0'.out) 2; have y3 := blk_frozen (H0'.out) 3; simp only [List.getElem?_toArray, List.getElem?_cons_zero, List.getElem?_cons_succ] at z0 z1 z2 z3; clear hdr)
        refine bodyPost_ret (results_cell_row rfl _ _ w.heap.size 26 #[.int .i64 c, .int .u64 0, .slice A2 n2 c2, .slice A3 n3 c3] (0, 0) _ rfl (set4 H0'.out _ _ _ _) Try.underlying26 rfl (by kernel_rfl)) rfl ?_
        have hko := kidsR_out HO'.out HR'.out (fun _ h => h.2) HL'.out H0'.out HG.out HGT.out (.int .i64 c) (.int .u64 0) (.slice A2 n2 c2) (.slice A3 n3 c3)
        refine ⟨⟨c, 0, [], ks⟩, .slice A2 n2 c2, .slice A3 n3 c3, none, rfl, hko.1, hko.2.1, hko.2.2, ?_⟩
        rw [HE.out]
        exact inv_end HIV.out (.inr rfl) c 0 []
      | some r' =>
        go_wp2_with (go_at_call 68; refine (HKC.out _).mono ?_; rintro e w6 ⟨rfl, hdr⟩; have HT' := Aside0.mk (HT.out.below (Drawn0.below hdr)); have H0' := Aside0.mk (H0.out.below (Drawn0.below hdr)); have HL' := Aside0.mk (leftR_below HL.out (Drawn0.below hdr)); have HO' := Aside0.mk (Kd.R_below HO.out (Drawn0.below hdr)); have HR' := Aside0.mk (Kd.R_below HR.out (Drawn0.below hdr)); have hf1 := HL'.out.1.fail.1; have hf2 := HL'.out.1.fail.2; simp only [Option.isSome_some, Option.isSome_none, Bool.not_true, Bool.not_false] at hf1; clear x0; have x0 := (HT'.out).cell 0; have x1 := (HT'.out).cell 1; have x2 := (HT'.out).cell 2; have x3 := (HT'.out).cell 3; have v0 := blk_frozen (HT'.out) 0; have v1 := blk_frozen (HT'.out) 1; have v2 := blk_frozen (HT'.out) 2; have v3 := blk_frozen (HT'.out) 3; simp only [List.getElem?_toArray, List.getElem?_cons_zero, List.getElem?_cons_succ] at x0 x1 x2 x3; have z0 := (H0'.out).cell 0; have z1 := (H0'.out).cell 1; have z2 := (H0'.out).cell 2; have z3 := (H0'.out).cell 3; have y0 := blk_frozen (H0'.out) 0; have y1 := blk_frozen (H0'.out) 1; have y2 := blk_frozen (H0'.out) 2; have y3 := blk_frozen (H0'.out) 3; simp only [List.getElem?_toArray, List.getElem?_cons_zero, List.getElem?_cons_succ] at z0 z1 z2 z3; clear hdr)
        refine bodyPost_ret (results_cell_row rfl _ _ w.heap.size 26 #[.int .i64 c, .int .u64 0, .slice A2 n2 c2, .slice A3 n3 c3] (0, 0) _ rfl (set4 H0'.out _ _ _ _) Try.underlying26 rfl (by kernel_rfl)) rfl ?_
        have hko := kidsR_out HO'.out HR'.out (fun _ h => h.2) HL'.out H0'.out HG.out HGT.out (.int .i64 c) (.int .u64 0) (.slice A2 n2 c2) (.slice A3 n3 c3)
        refine ⟨⟨c, 0, [], ks⟩, .slice A2 n2 c2, .slice A3 n3 c3, some r', rfl, hko.1, hko.2.1, hko.2.2, ?_⟩
        rw [HE.out]
        exact inv_end HIV.out (.inl (by omega)) c 0 []
set_option maxHeartbeats 1000000 in
theorem rread_c : ∀ (d : Nat), d ≤ 8 → ∀ (w0 w : World) (g : Nat) (st : Option (List Int)), Rf.RfO w0 w g st → Below w0.heap.size w0 w →
    Calls Try.prog 52 #[.pointer (some ⟨g, 0, none⟩), .int .i64 (d : Int)] w (ReadR w0 w g (readT d st)) := by
  intro d
  induction d with
  | zero =>
    intro hd w0 w g st h hB
    match st, h with
    | none, h => exact rread_fail 0 hd w0 w g none h hB (by simp [takeO])
    | some [], h => exact rread_fail 0 hd w0 w g (some []) h hB (by simp [takeO])
    | some (c :: r), h => exact rread_zero w0 w g c r h hB
  | succ d ih =>
    intro hd w0 w g st h hB
    match st, h with
    | none, h => exact rread_fail (d + 1) hd w0 w g none h hB (by simp [takeO])
    | some [], h => exact rread_fail (d + 1) hd w0 w g (some []) h hB (by simp [takeO])
    | some (c :: r), h =>
      have ih' := ih (by omega)
      cases ht : thereB c with
      | false => exact rread_no d hd w0 w g c r h hB ht
      | true =>
        cases hn : numT c with
        | true =>
          cases hdt : datT c with
          | true => simp [numT, datT] at hn hdt; omega
          | false => exact rread_num d hd ih' w0 w g c r h hB ht hn hdt
        | false =>
          cases hdt : datT c with
          | true => exact rread_dat d hd ih' w0 w g c r h hB ht hn hdt
          | false => exact rread_oth d hd ih' w0 w g c r h hB ht hn hdt
end Go.Proofs.Ytgohmganimamcaa.Term
/- hanaperref05.Get walked. -/
namespace Go.Proofs.Ytgohmganimamcaa.Term
set_option linter.unusedVariables false
set_option linter.unusedSimpArgs false
open Go.RowKit Go.Proofs.Ytgohmganimamcaa.Base Go.Proofs.Ytgohmganimamcaa.TlvPlain Go.Proofs.Ytgohmganimamcaa.Lo Go.Proofs.Ytgohmganimamcaa.RdPlain Go.Proofs.Ytgohmganimamcaa.Aid Go.Proofs.Ytgohmganimamcaa.PZ Go.Proofs.YtgohmganimamcaaW.PrintWords Go.Proofs.YtgohmganimamcaaW.PrintLast Go.Proofs.YtgohmganimamcaaW.PrintMore
theorem may_c (x : ST) (A2 : Option Addr) (c2 : Nat) (A3 : Option Addr) (c3 : Nat) (w : World) (h : RowsT w x A2 c2 A3 c3) :
    Calls Try.prog 17 #[.agg #[.int .i64 x.f0, .int .u64 x.f1, .slice A2 x.f2.length c2, .slice A3 x.f3.length c3]] w fun e w' => e = .returned (.bool (mayT 8 x)) ∧ Below w.heap.size w w' := by
  obtain ⟨k, hk⟩ := (rMay_ev x).rounds
  exact hanaperref05_May.calls k x.f0 x.f1 A2 c2 x.f2 A3 c3 x.f3 _ w h.1.2 h.1.1 h.2.2 h.2.1 hk
set_option maxHeartbeats 4000000 in
set_option maxRecDepth 100000 in
theorem rget_lo (w : World) (A : Option Addr) (c : Nat) (b : List Int) (hr : Rb w A b) (hc : b.length ≤ c) (hl : b.length < 140737488355328) (hu : U8 b) (h4 : b.length ≤ 400) (bs : List Int) (hbs : b.take 400 = bs) :
    Calls Try.prog 19 #[.slice A b.length c] w (GetQ w b) := by
  have hbb : bs = b := by rw [← hbs]; exact List.take_of_length_le h4
  have hn : bs.length = b.length := by rw [hbb]
  have hrb : Rb w A bs := by rw [hbb]; exact hr
  have hub : U8 bs := by rw [hbb]; exact hu
  have hcb : bs.length ≤ c := by omega
  have hlb : bs.length < 140737488355328 := by omega
  have h41 : (b.length : Int) ≤ 400 := by omega
  have h42 : decide ((b.length : Int) ≤ 400) = true := decide_eq_true h41
  clear hbb
  have HBS := Aside0.mk hbs
  have HR := Aside0.mk hrb
  have HC := Aside0.mk hcb
  have HL := Aside0.mk hlb
  have HU := Aside0.mk hub
  have HN1 := Aside0.mk hn
  have HN := Aside0.mk (show ((b.length : Int) : Int) = (bs.length : Int) by omega)
  have HB := Aside0.mk (below_alloc (Below.refl w.heap.size w) (.cells #[.int .i64 0, .int .u64 0, .slice none 0 0, .slice none 0 0] 26))
  have H0 := Aside0.mk (show Blk (w.alloc (.cells #[.int .i64 0, .int .u64 0, .slice none 0 0, .slice none 0 0] 26)) w.heap.size 26 #[.int .i64 0, .int .u64 0, .slice none 0 0, .slice none 0 0] from blk_new _ _)
  have hu26 := Try.underlying26
  have hu23 := Try.underlying23
  clear hr hl hu hbs hrb hcb hlb hub hn
  go_enter Try.func19, Try.ntmps19
  go_wp2_with (fail)
  have hNew := copy_c A c bs _ (Kd.C_below HR.out HB.out) HC.out HL.out
  rw [HN1.out] at hNew
  refine hNew.mono ?_
  rintro e w5 ⟨v, rfl, ho, hb⟩
  obtain ⟨A5, c5, rfl, hl5, hr5⟩ := Ob.reads ho
  have H1' := Aside0.mk (H0.out.below hb)
  have HB0 := Aside0.mk (below_step HB.out hb)
  have HLT5 := Aside0.mk (show ∀ ad, A5 = some ad → ad.block < w5.heap.size from fun ad e => Kd.R_lt ho ad.block (by rw [e]; rfl))
  have HR5 := Aside0.mk hr5
  have HL5 := Aside0.mk hl5
  clear hb ho hr5 hl5 hNew HR
  go_upto_region 5 with (fail)
  obtain ⟨w1, hw1⟩ : ∃ x, w5.alloc (.cells #[.slice A5 bs.length c5, .bool false] 81) = x := ⟨_, rfl⟩
  obtain ⟨g, hg⟩ : ∃ x, w5.heap.size = x := ⟨_, rfl⟩
  have HG := Aside0.mk (show w.heap.size + 1 ≤ g by have := HB0.out.size; have := H1'.out.lt; omega)
  have HS := Aside0.mk (show Rf.RfO w w1 g (some bs) by
    rw [← hw1, ← hg]
    exact ⟨HB0.out.size, A5, c5, blk_new _ _, HL5.out, Kd.C_alloc HR5.out _, HL.out, HU.out, HLT5.out⟩)
  have HB1 := Aside0.mk (show Below w.heap.size w w1 by rw [← hw1]; exact below_alloc HB0.out _)
  have H1 := Aside0.mk (show Blk w1 w.heap.size 26 #[.int .i64 0, .int .u64 0, .slice none 0 0, .slice none 0 0] by rw [← hw1]; exact H1'.out.alloc _)
  rw [hw1, hg]
  clear hw1 hg HB0 H1' HR5 HL5 HLT5
  have hc := rread_c 8 (by decide) w w1 g (some bs) HS.out HB1.out
  have hwf := fun x r => read_wf 8 bs x r HU.out
  cases hr : readT 8 (some bs) with
  | none =>
    rw [hr] at hc
    have HCC := Aside0.mk hc
    have HE := Aside0.mk (get_no HBS.out hr)
    clear hc hr hwf
    go_wp2_with (go_at_call 52; refine HCC.out.mono ?_; rintro e w' ⟨x, q2, q3, st, rfl, ho2, ho3, hl', hst⟩; obtain rfl := (show st = none from hst); obtain ⟨B2, e2, rfl⟩ := Kd.R_slice ho2; obtain ⟨B3, e3, rfl⟩ := Kd.R_slice ho3; have HF := Aside0.mk ((hl'.1.below (below_alloc (Below.refl _ _) (.cells #[.int .i64 x.f0, .int .u64 x.f1, .slice B2 x.f2.length e2, .slice B3 x.f3.length e3] 26))).fail); have hf1 := HF.out.1; have hf2 := HF.out.2; simp only [Option.isSome_none, Bool.not_false] at hf1; have H0'' := Aside0.mk ((H1.out.keep hl'.2.2 (by have := HG.out; omega)).alloc (.cells #[.int .i64 x.f0, .int .u64 x.f1, .slice B2 x.f2.length e2, .slice B3 x.f3.length e3] 26)); have HB'' := Aside0.mk (below_alloc hl'.2.1 (.cells #[.int .i64 x.f0, .int .u64 x.f1, .slice B2 x.f2.length e2, .slice B3 x.f3.length e3] 26)); have z0 := H0''.out.cell 0; have z1 := H0''.out.cell 1; have z2 := H0''.out.cell 2; have z3 := H0''.out.cell 3; have y0 := blk_frozen H0''.out 0; have y1 := blk_frozen H0''.out 1; have y2 := blk_frozen H0''.out 2; have y3 := blk_frozen H0''.out 3; simp only [List.getElem?_toArray, List.getElem?_cons_zero, List.getElem?_cons_succ] at z0 z1 z2 z3; clear hl' ho2 ho3 hst)
    refine bodyPost_ret (results_ctt rfl _ _ w.heap.size 26 #[.int .i64 0, .int .u64 0, .slice none 0 0, .slice none 0 0] (0, 0) _ rfl (set4 H0''.out _ _ _ _) Try.underlying26 rfl (by kernel_rfl)) rfl ?_
    unfold GetQ
    rw [HE.out]
    exact ⟨_, _, rfl, Kd.R_nil _ _ _ _ _, Kd.R_nil _ _ _ _ _, below_set4 HB''.out _ _ _ _⟩
  | some p =>
    obtain ⟨x, r'⟩ := p
    rw [hr] at hc
    have HCC := Aside0.mk hc
    have HWF := Aside0.mk (hwf x r' hr)
    clear hc hwf
    cases hm : mayT 8 x with
    | false =>
      have HE := Aside0.mk (get_bad HBS.out hr hm)
      have HM := Aside0.mk hm
      clear hr hm
      go_wp2_with (first
        | (go_at_call 52; refine HCC.out.mono ?_; rintro e w' ⟨y, q2, q3, st, rfl, ho2, ho3, hl', hst⟩; obtain ⟨rfl, rfl⟩ := (show y = x ∧ st = some r' from hst); obtain ⟨B2, e2, rfl, k2, r2⟩ := Kd.R_reads ho2; obtain ⟨B3, e3, rfl, k3, r3⟩ := Kd.R_reads ho3; have HF := Aside0.mk ((hl'.1.below (below_alloc (Below.refl _ _) (.cells #[.int .i64 y.f0, .int .u64 y.f1, .slice B2 y.f2.length e2, .slice B3 y.f3.length e3] 26))).fail); have hf1 := HF.out.1; have hf2 := HF.out.2; simp only [Option.isSome_some, Bool.not_true] at hf1; have H0' := Aside0.mk ((H1.out.keep hl'.2.2 (by have := HG.out; omega)).alloc (.cells #[.int .i64 y.f0, .int .u64 y.f1, .slice B2 y.f2.length e2, .slice B3 y.f3.length e3] 26)); have HB' := Aside0.mk (below_alloc hl'.2.1 (.cells #[.int .i64 y.f0, .int .u64 y.f1, .slice B2 y.f2.length e2, .slice B3 y.f3.length e3] 26)); have HCK := Aside0.mk (may_c y B2 e2 B3 e3 (w'.alloc (.cells #[.int .i64 y.f0, .int .u64 y.f1, .slice B2 y.f2.length e2, .slice B3 y.f3.length e3] 26)) ⟨⟨k2, Kd.C_alloc r2 _⟩, k3, Kd.C_alloc r3 _⟩); clear hl' ho2 ho3 k2 k3 r2 r3)
        | (go_at_call 17; refine HCK.out.mono ?_; rw [HM.out]; rintro e w2 ⟨rfl, hb⟩; have H0'' := Aside0.mk (H0'.out.below hb); have HB'' := Aside0.mk (below_step HB'.out hb); have z0 := H0''.out.cell 0; have z1 := H0''.out.cell 1; have z2 := H0''.out.cell 2; have z3 := H0''.out.cell 3; have y0 := blk_frozen H0''.out 0; have y1 := blk_frozen H0''.out 1; have y2 := blk_frozen H0''.out 2; have y3 := blk_frozen H0''.out 3; simp only [List.getElem?_toArray, List.getElem?_cons_zero, List.getElem?_cons_succ] at z0 z1 z2 z3; clear hb))
      refine bodyPost_ret (results_ctt rfl _ _ w.heap.size 26 #[.int .i64 0, .int .u64 0, .slice none 0 0, .slice none 0 0] (0, 0) _ rfl (set4 H0''.out _ _ _ _) Try.underlying26 rfl (by kernel_rfl)) rfl ?_
      unfold GetQ
      rw [HE.out]
      exact ⟨_, _, rfl, Kd.R_nil _ _ _ _ _, Kd.R_nil _ _ _ _ _, below_set4 HB''.out _ _ _ _⟩
    | true =>
      have HE := Aside0.mk (get_ok HBS.out hr hm)
      have HM := Aside0.mk hm
      have HLE := Aside0.mk (show r'.length ≤ bs.length by have h := (read_back 8 bs x r' HU.out hr).1; rw [h, List.length_append]; omega)
      clear hr hm
      go_upto_region 8 with (first
        | (go_at_call 52; refine HCC.out.mono ?_; rintro e w' ⟨y, q2, q3, st, rfl, ho2, ho3, hl', hst⟩; obtain ⟨rfl, rfl⟩ := (show y = x ∧ st = some r' from hst); obtain ⟨B2, e2, rfl, k2, r2⟩ := Kd.R_reads ho2; obtain ⟨B3, e3, rfl, k3, r3⟩ := Kd.R_reads ho3; have HF := Aside0.mk ((hl'.1.below (below_alloc (Below.refl _ _) (.cells #[.int .i64 y.f0, .int .u64 y.f1, .slice B2 y.f2.length e2, .slice B3 y.f3.length e3] 26))).fail); have hf1 := HF.out.1; have hf2 := HF.out.2; simp only [Option.isSome_some, Bool.not_true] at hf1; have HT' := Aside0.mk (show Blk (w'.alloc (.cells #[.int .i64 y.f0, .int .u64 y.f1, .slice B2 y.f2.length e2, .slice B3 y.f3.length e3] 26)) w'.heap.size 26 #[.int .i64 y.f0, .int .u64 y.f1, .slice B2 y.f2.length e2, .slice B3 y.f3.length e3] from blk_new _ _); have HO2 := Aside0.mk (Kd.R_alloc ho2 (.cells #[.int .i64 y.f0, .int .u64 y.f1, .slice B2 y.f2.length e2, .slice B3 y.f3.length e3] 26)); have HO3 := Aside0.mk (Kd.R_alloc ho3 (.cells #[.int .i64 y.f0, .int .u64 y.f1, .slice B2 y.f2.length e2, .slice B3 y.f3.length e3] 26)); have HS' := Aside0.mk (hl'.1.below (below_alloc (Below.refl _ _) (.cells #[.int .i64 y.f0, .int .u64 y.f1, .slice B2 y.f2.length e2, .slice B3 y.f3.length e3] 26))); have H0' := Aside0.mk ((H1.out.keep hl'.2.2 (by have := HG.out; omega)).alloc (.cells #[.int .i64 y.f0, .int .u64 y.f1, .slice B2 y.f2.length e2, .slice B3 y.f3.length e3] 26)); have HB' := Aside0.mk (below_alloc hl'.2.1 (.cells #[.int .i64 y.f0, .int .u64 y.f1, .slice B2 y.f2.length e2, .slice B3 y.f3.length e3] 26)); have HCK := Aside0.mk (may_c y B2 e2 B3 e3 (w'.alloc (.cells #[.int .i64 y.f0, .int .u64 y.f1, .slice B2 y.f2.length e2, .slice B3 y.f3.length e3] 26)) ⟨⟨k2, Kd.C_alloc r2 _⟩, k3, Kd.C_alloc r3 _⟩); clear hl' ho2 ho3 k2 k3 r2 r3)
        | (go_at_call 17; refine HCK.out.mono ?_; rw [HM.out]; rintro e w2 ⟨rfl, hb⟩; have H0'' := Aside0.mk (H0'.out.below hb); have HT'' := Aside0.mk (HT'.out.below hb); have HO2' := Aside0.mk (Kd.R_below HO2.out hb); have HO3' := Aside0.mk (Kd.R_below HO3.out hb); have HS'' := Aside0.mk (HS'.out.below hb); have HB'' := Aside0.mk (below_step HB'.out hb); clear hb))
      have HOK := Aside0.mk (fun a b c f => (⟨Kd.R_drew (r_set4 (q := w.heap.size) HO2'.out (by have := HB1.out.size; have := HG.out; have := HS.out.blk.2.1; omega) a b c f), Kd.R_drew (r_set4 (q := w.heap.size) HO3'.out (by have := HB1.out.size; have := HG.out; have := HS.out.blk.2.1; omega) a b c f), below_drew1 (below_set4 HB''.out a b c f)⟩ : _ ∧ _ ∧ _))
      obtain ⟨p7, hp7⟩ : ∃ k, w'.heap.size = k := ⟨_, rfl⟩
      rw [hp7] at HT'' ⊢
      obtain ⟨A7, c7, hb7, _, _⟩ := HS''.out.bytes
      have hb8 := ((below_drew1 (Below.refl w2.heap.size w2)).cell (World.block_lt_of_cell? _ _ hb7)).trans hb7
      have hwn : IntKind.i64.wrap ((b.length : Int) - (r'.length : Int)) = (bs.length : Int) - r'.length := by have := HN.out; have := HLE.out; have := HL.out; rw [IntKind.wrap_i64]; omega
      clear HT' HO2 HO3 HS' H0' HB' HCK HCC H1 H0 HB HS hp7 hf1 hf2
      have hq1 : g ≠ w.heap.size := by have := HG.out; omega
      have hq2 : w.heap.size ≠ g := by have := HG.out; omega
      have z0 := H0''.out.cell 0; have z1 := H0''.out.cell 1; have z2 := H0''.out.cell 2; have z3 := H0''.out.cell 3; have y0 := blk_frozen H0''.out 0; have y1 := blk_frozen H0''.out 1; have y2 := blk_frozen H0''.out 2; have y3 := blk_frozen H0''.out 3; simp only [List.getElem?_toArray, List.getElem?_cons_zero, List.getElem?_cons_succ] at z0 z1 z2 z3; have Z0 := (H0''.out.below (below_drew1 (Below.refl _ _))).cell 0; have Z1 := (H0''.out.below (below_drew1 (Below.refl _ _))).cell 1; have Z2 := (H0''.out.below (below_drew1 (Below.refl _ _))).cell 2; have Z3 := (H0''.out.below (below_drew1 (Below.refl _ _))).cell 3; have Y0 := blk_frozen (H0''.out.below (below_drew1 (Below.refl _ _))) 0; have Y1 := blk_frozen (H0''.out.below (below_drew1 (Below.refl _ _))) 1; have Y2 := blk_frozen (H0''.out.below (below_drew1 (Below.refl _ _))) 2; have Y3 := blk_frozen (H0''.out.below (below_drew1 (Below.refl _ _))) 3; simp only [List.getElem?_toArray, List.getElem?_cons_zero, List.getElem?_cons_succ] at Z0 Z1 Z2 Z3; have x0 := HT''.out.cell 0; have x1 := HT''.out.cell 1; have x2 := HT''.out.cell 2; have x3 := HT''.out.cell 3; have v0 := blk_frozen HT''.out 0; have v1 := blk_frozen HT''.out 1; have v2 := blk_frozen HT''.out 2; have v3 := blk_frozen HT''.out 3; simp only [List.getElem?_toArray, List.getElem?_cons_zero, List.getElem?_cons_succ] at x0 x1 x2 x3; have X0 := (HT''.out.below (below_drew1 (Below.refl _ _))).cell 0; have X1 := (HT''.out.below (below_drew1 (Below.refl _ _))).cell 1; have X2 := (HT''.out.below (below_drew1 (Below.refl _ _))).cell 2; have X3 := (HT''.out.below (below_drew1 (Below.refl _ _))).cell 3; have V0 := blk_frozen (HT''.out.below (below_drew1 (Below.refl _ _))) 0; have V1 := blk_frozen (HT''.out.below (below_drew1 (Below.refl _ _))) 1; have V2 := blk_frozen (HT''.out.below (below_drew1 (Below.refl _ _))) 2; have V3 := blk_frozen (HT''.out.below (below_drew1 (Below.refl _ _))) 3; simp only [List.getElem?_toArray, List.getElem?_cons_zero, List.getElem?_cons_succ] at X0 X1 X2 X3
      have hb9 : ∀ a, (w2.setCell ⟨w.heap.size, 0, none⟩ a).cell? ⟨g, 0, none⟩ = some (.slice A7 r'.length c7) := fun a => (World.cell?_setCell_far w2 ⟨w.heap.size, 0, none⟩ ⟨g, 0, none⟩ a hq2).trans hb7
      go_region_law (fail)
      all_goals
        go_wp2_with (fail)
        refine bodyPost_ret (results_ctt rfl _ _ w.heap.size 26 #[.int .i64 y.f0, .int .u64 y.f1, .slice B2 y.f2.length e2, .slice B3 y.f3.length e3] (0, 0) _ rfl ((set4 H0''.out _ _ _ _).below (below_drew1 (Below.refl _ _))) Try.underlying26 rfl (by kernel_rfl)) rfl ?_
        unfold GetQ
        rw [HE.out, ← hwn]
        exact ⟨_, _, rfl, (HOK.out _ _ _ _).1, (HOK.out _ _ _ _).2.1, (HOK.out _ _ _ _).2.2⟩
set_option maxHeartbeats 4000000 in
set_option maxRecDepth 100000 in
theorem rget_hi (w : World) (A : Option Addr) (c : Nat) (b : List Int) (hr : Rb w A b) (hc : b.length ≤ c) (hl : b.length < 140737488355328) (hu : U8 b) (h4 : 400 < b.length) (bs : List Int) (hbs : b.take 400 = bs) :
    Calls Try.prog 19 #[.slice A b.length c] w (GetQ w b) := by
  have hn : bs.length = 400 := by rw [← hbs, List.length_take]; omega
  have hrb : Rb w A bs := by rw [← hbs]; exact Kd.C_take hr (show 400 ≤ b.length by omega)
  have hub : U8 bs := by rw [← hbs]; exact fun x hx => hu x (List.mem_of_mem_take hx)
  have hcb : bs.length ≤ c := by omega
  have hlb : bs.length < 140737488355328 := by omega
  have h41 : ¬ (b.length : Int) ≤ 400 := by omega
  have h42 : decide ((b.length : Int) ≤ 400) = false := decide_eq_false h41
  have h43 : (400 : Int) ≤ (c : Int) := by omega
  have HBS := Aside0.mk hbs
  have HR := Aside0.mk hrb
  have HC := Aside0.mk hcb
  have HL := Aside0.mk hlb
  have HU := Aside0.mk hub
  have HN1 := Aside0.mk hn
  have HN := Aside0.mk (show (400 : Int) = (bs.length : Int) by omega)
  have HB := Aside0.mk (below_alloc (Below.refl w.heap.size w) (.cells #[.int .i64 0, .int .u64 0, .slice none 0 0, .slice none 0 0] 26))
  have H0 := Aside0.mk (show Blk (w.alloc (.cells #[.int .i64 0, .int .u64 0, .slice none 0 0, .slice none 0 0] 26)) w.heap.size 26 #[.int .i64 0, .int .u64 0, .slice none 0 0, .slice none 0 0] from blk_new _ _)
  have hu26 := Try.underlying26
  have hu23 := Try.underlying23
  clear hr hl hu hbs hrb hcb hlb hub hn
  go_enter Try.func19, Try.ntmps19
  go_wp2_with (fail)
  have hNew := copy_c A c bs _ (Kd.C_below HR.out HB.out) HC.out HL.out
  rw [HN1.out] at hNew
  refine hNew.mono ?_
  rintro e w5 ⟨v, rfl, ho, hb⟩
  obtain ⟨A5, c5, rfl, hl5, hr5⟩ := Ob.reads ho
  have H1' := Aside0.mk (H0.out.below hb)
  have HB0 := Aside0.mk (below_step HB.out hb)
  have HLT5 := Aside0.mk (show ∀ ad, A5 = some ad → ad.block < w5.heap.size from fun ad e => Kd.R_lt ho ad.block (by rw [e]; rfl))
  have HR5 := Aside0.mk hr5
  have HL5 := Aside0.mk hl5
  clear hb ho hr5 hl5 hNew HR
  go_upto_region 5 with (fail)
  obtain ⟨w1, hw1⟩ : ∃ x, w5.alloc (.cells #[.slice A5 bs.length c5, .bool false] 81) = x := ⟨_, rfl⟩
  obtain ⟨g, hg⟩ : ∃ x, w5.heap.size = x := ⟨_, rfl⟩
  have HG := Aside0.mk (show w.heap.size + 1 ≤ g by have := HB0.out.size; have := H1'.out.lt; omega)
  have HS := Aside0.mk (show Rf.RfO w w1 g (some bs) by
    rw [← hw1, ← hg]
    exact ⟨HB0.out.size, A5, c5, blk_new _ _, HL5.out, Kd.C_alloc HR5.out _, HL.out, HU.out, HLT5.out⟩)
  have HB1 := Aside0.mk (show Below w.heap.size w w1 by rw [← hw1]; exact below_alloc HB0.out _)
  have H1 := Aside0.mk (show Blk w1 w.heap.size 26 #[.int .i64 0, .int .u64 0, .slice none 0 0, .slice none 0 0] by rw [← hw1]; exact H1'.out.alloc _)
  rw [hw1, hg]
  clear hw1 hg HB0 H1' HR5 HL5 HLT5
  have hc := rread_c 8 (by decide) w w1 g (some bs) HS.out HB1.out
  have hwf := fun x r => read_wf 8 bs x r HU.out
  cases hr : readT 8 (some bs) with
  | none =>
    rw [hr] at hc
    have HCC := Aside0.mk hc
    have HE := Aside0.mk (get_no HBS.out hr)
    clear hc hr hwf
    go_wp2_with (go_at_call 52; refine HCC.out.mono ?_; rintro e w' ⟨x, q2, q3, st, rfl, ho2, ho3, hl', hst⟩; obtain rfl := (show st = none from hst); obtain ⟨B2, e2, rfl⟩ := Kd.R_slice ho2; obtain ⟨B3, e3, rfl⟩ := Kd.R_slice ho3; have HF := Aside0.mk ((hl'.1.below (below_alloc (Below.refl _ _) (.cells #[.int .i64 x.f0, .int .u64 x.f1, .slice B2 x.f2.length e2, .slice B3 x.f3.length e3] 26))).fail); have hf1 := HF.out.1; have hf2 := HF.out.2; simp only [Option.isSome_none, Bool.not_false] at hf1; have H0'' := Aside0.mk ((H1.out.keep hl'.2.2 (by have := HG.out; omega)).alloc (.cells #[.int .i64 x.f0, .int .u64 x.f1, .slice B2 x.f2.length e2, .slice B3 x.f3.length e3] 26)); have HB'' := Aside0.mk (below_alloc hl'.2.1 (.cells #[.int .i64 x.f0, .int .u64 x.f1, .slice B2 x.f2.length e2, .slice B3 x.f3.length e3] 26)); have z0 := H0''.out.cell 0; have z1 := H0''.out.cell 1; have z2 := H0''.out.cell 2; have z3 := H0''.out.cell 3; have y0 := blk_frozen H0''.out 0; have y1 := blk_frozen H0''.out 1; have y2 := blk_frozen H0''.out 2; have y3 := blk_frozen H0''.out 3; simp only [List.getElem?_toArray, List.getElem?_cons_zero, List.getElem?_cons_succ] at z0 z1 z2 z3; clear hl' ho2 ho3 hst)
    refine bodyPost_ret (results_ctt rfl _ _ w.heap.size 26 #[.int .i64 0, .int .u64 0, .slice none 0 0, .slice none 0 0] (0, 0) _ rfl (set4 H0''.out _ _ _ _) Try.underlying26 rfl (by kernel_rfl)) rfl ?_
    unfold GetQ
    rw [HE.out]
    exact ⟨_, _, rfl, Kd.R_nil _ _ _ _ _, Kd.R_nil _ _ _ _ _, below_set4 HB''.out _ _ _ _⟩
  | some p =>
    obtain ⟨x, r'⟩ := p
    rw [hr] at hc
    have HCC := Aside0.mk hc
    have HWF := Aside0.mk (hwf x r' hr)
    clear hc hwf
    cases hm : mayT 8 x with
    | false =>
      have HE := Aside0.mk (get_bad HBS.out hr hm)
      have HM := Aside0.mk hm
      clear hr hm
      go_wp2_with (first
        | (go_at_call 52; refine HCC.out.mono ?_; rintro e w' ⟨y, q2, q3, st, rfl, ho2, ho3, hl', hst⟩; obtain ⟨rfl, rfl⟩ := (show y = x ∧ st = some r' from hst); obtain ⟨B2, e2, rfl, k2, r2⟩ := Kd.R_reads ho2; obtain ⟨B3, e3, rfl, k3, r3⟩ := Kd.R_reads ho3; have HF := Aside0.mk ((hl'.1.below (below_alloc (Below.refl _ _) (.cells #[.int .i64 y.f0, .int .u64 y.f1, .slice B2 y.f2.length e2, .slice B3 y.f3.length e3] 26))).fail); have hf1 := HF.out.1; have hf2 := HF.out.2; simp only [Option.isSome_some, Bool.not_true] at hf1; have H0' := Aside0.mk ((H1.out.keep hl'.2.2 (by have := HG.out; omega)).alloc (.cells #[.int .i64 y.f0, .int .u64 y.f1, .slice B2 y.f2.length e2, .slice B3 y.f3.length e3] 26)); have HB' := Aside0.mk (below_alloc hl'.2.1 (.cells #[.int .i64 y.f0, .int .u64 y.f1, .slice B2 y.f2.length e2, .slice B3 y.f3.length e3] 26)); have HCK := Aside0.mk (may_c y B2 e2 B3 e3 (w'.alloc (.cells #[.int .i64 y.f0, .int .u64 y.f1, .slice B2 y.f2.length e2, .slice B3 y.f3.length e3] 26)) ⟨⟨k2, Kd.C_alloc r2 _⟩, k3, Kd.C_alloc r3 _⟩); clear hl' ho2 ho3 k2 k3 r2 r3)
        | (go_at_call 17; refine HCK.out.mono ?_; rw [HM.out]; rintro e w2 ⟨rfl, hb⟩; have H0'' := Aside0.mk (H0'.out.below hb); have HB'' := Aside0.mk (below_step HB'.out hb); have z0 := H0''.out.cell 0; have z1 := H0''.out.cell 1; have z2 := H0''.out.cell 2; have z3 := H0''.out.cell 3; have y0 := blk_frozen H0''.out 0; have y1 := blk_frozen H0''.out 1; have y2 := blk_frozen H0''.out 2; have y3 := blk_frozen H0''.out 3; simp only [List.getElem?_toArray, List.getElem?_cons_zero, List.getElem?_cons_succ] at z0 z1 z2 z3; clear hb))
      refine bodyPost_ret (results_ctt rfl _ _ w.heap.size 26 #[.int .i64 0, .int .u64 0, .slice none 0 0, .slice none 0 0] (0, 0) _ rfl (set4 H0''.out _ _ _ _) Try.underlying26 rfl (by kernel_rfl)) rfl ?_
      unfold GetQ
      rw [HE.out]
      exact ⟨_, _, rfl, Kd.R_nil _ _ _ _ _, Kd.R_nil _ _ _ _ _, below_set4 HB''.out _ _ _ _⟩
    | true =>
      have HE := Aside0.mk (get_ok HBS.out hr hm)
      have HM := Aside0.mk hm
      have HLE := Aside0.mk (show r'.length ≤ bs.length by have h := (read_back 8 bs x r' HU.out hr).1; rw [h, List.length_append]; omega)
      clear hr hm
      go_upto_region 8 with (first
        | (go_at_call 52; refine HCC.out.mono ?_; rintro e w' ⟨y, q2, q3, st, rfl, ho2, ho3, hl', hst⟩; obtain ⟨rfl, rfl⟩ := (show y = x ∧ st = some r' from hst); obtain ⟨B2, e2, rfl, k2, r2⟩ := Kd.R_reads ho2; obtain ⟨B3, e3, rfl, k3, r3⟩ := Kd.R_reads ho3; have HF := Aside0.mk ((hl'.1.below (below_alloc (Below.refl _ _) (.cells #[.int .i64 y.f0, .int .u64 y.f1, .slice B2 y.f2.length e2, .slice B3 y.f3.length e3] 26))).fail); have hf1 := HF.out.1; have hf2 := HF.out.2; simp only [Option.isSome_some, Bool.not_true] at hf1; have HT' := Aside0.mk (show Blk (w'.alloc (.cells #[.int .i64 y.f0, .int .u64 y.f1, .slice B2 y.f2.length e2, .slice B3 y.f3.length e3] 26)) w'.heap.size 26 #[.int .i64 y.f0, .int .u64 y.f1, .slice B2 y.f2.length e2, .slice B3 y.f3.length e3] from blk_new _ _); have HO2 := Aside0.mk (Kd.R_alloc ho2 (.cells #[.int .i64 y.f0, .int .u64 y.f1, .slice B2 y.f2.length e2, .slice B3 y.f3.length e3] 26)); have HO3 := Aside0.mk (Kd.R_alloc ho3 (.cells #[.int .i64 y.f0, .int .u64 y.f1, .slice B2 y.f2.length e2, .slice B3 y.f3.length e3] 26)); have HS' := Aside0.mk (hl'.1.below (below_alloc (Below.refl _ _) (.cells #[.int .i64 y.f0, .int .u64 y.f1, .slice B2 y.f2.length e2, .slice B3 y.f3.length e3] 26))); have H0' := Aside0.mk ((H1.out.keep hl'.2.2 (by have := HG.out; omega)).alloc (.cells #[.int .i64 y.f0, .int .u64 y.f1, .slice B2 y.f2.length e2, .slice B3 y.f3.length e3] 26)); have HB' := Aside0.mk (below_alloc hl'.2.1 (.cells #[.int .i64 y.f0, .int .u64 y.f1, .slice B2 y.f2.length e2, .slice B3 y.f3.length e3] 26)); have HCK := Aside0.mk (may_c y B2 e2 B3 e3 (w'.alloc (.cells #[.int .i64 y.f0, .int .u64 y.f1, .slice B2 y.f2.length e2, .slice B3 y.f3.length e3] 26)) ⟨⟨k2, Kd.C_alloc r2 _⟩, k3, Kd.C_alloc r3 _⟩); clear hl' ho2 ho3 k2 k3 r2 r3)
        | (go_at_call 17; refine HCK.out.mono ?_; rw [HM.out]; rintro e w2 ⟨rfl, hb⟩; have H0'' := Aside0.mk (H0'.out.below hb); have HT'' := Aside0.mk (HT'.out.below hb); have HO2' := Aside0.mk (Kd.R_below HO2.out hb); have HO3' := Aside0.mk (Kd.R_below HO3.out hb); have HS'' := Aside0.mk (HS'.out.below hb); have HB'' := Aside0.mk (below_step HB'.out hb); clear hb))
      have HOK := Aside0.mk (fun a b c f => (⟨Kd.R_drew (r_set4 (q := w.heap.size) HO2'.out (by have := HB1.out.size; have := HG.out; have := HS.out.blk.2.1; omega) a b c f), Kd.R_drew (r_set4 (q := w.heap.size) HO3'.out (by have := HB1.out.size; have := HG.out; have := HS.out.blk.2.1; omega) a b c f), below_drew1 (below_set4 HB''.out a b c f)⟩ : _ ∧ _ ∧ _))
      obtain ⟨p7, hp7⟩ : ∃ k, w'.heap.size = k := ⟨_, rfl⟩
      rw [hp7] at HT'' ⊢
      obtain ⟨A7, c7, hb7, _, _⟩ := HS''.out.bytes
      have hb8 := ((below_drew1 (Below.refl w2.heap.size w2)).cell (World.block_lt_of_cell? _ _ hb7)).trans hb7
      have hwn : IntKind.i64.wrap (400 - (r'.length : Int)) = (bs.length : Int) - r'.length := by have := HN.out; have := HLE.out; have := HL.out; rw [IntKind.wrap_i64]; omega
      clear HT' HO2 HO3 HS' H0' HB' HCK HCC H1 H0 HB HS hp7 hf1 hf2
      have hq1 : g ≠ w.heap.size := by have := HG.out; omega
      have hq2 : w.heap.size ≠ g := by have := HG.out; omega
      have z0 := H0''.out.cell 0; have z1 := H0''.out.cell 1; have z2 := H0''.out.cell 2; have z3 := H0''.out.cell 3; have y0 := blk_frozen H0''.out 0; have y1 := blk_frozen H0''.out 1; have y2 := blk_frozen H0''.out 2; have y3 := blk_frozen H0''.out 3; simp only [List.getElem?_toArray, List.getElem?_cons_zero, List.getElem?_cons_succ] at z0 z1 z2 z3; have Z0 := (H0''.out.below (below_drew1 (Below.refl _ _))).cell 0; have Z1 := (H0''.out.below (below_drew1 (Below.refl _ _))).cell 1; have Z2 := (H0''.out.below (below_drew1 (Below.refl _ _))).cell 2; have Z3 := (H0''.out.below (below_drew1 (Below.refl _ _))).cell 3; have Y0 := blk_frozen (H0''.out.below (below_drew1 (Below.refl _ _))) 0; have Y1 := blk_frozen (H0''.out.below (below_drew1 (Below.refl _ _))) 1; have Y2 := blk_frozen (H0''.out.below (below_drew1 (Below.refl _ _))) 2; have Y3 := blk_frozen (H0''.out.below (below_drew1 (Below.refl _ _))) 3; simp only [List.getElem?_toArray, List.getElem?_cons_zero, List.getElem?_cons_succ] at Z0 Z1 Z2 Z3; have x0 := HT''.out.cell 0; have x1 := HT''.out.cell 1; have x2 := HT''.out.cell 2; have x3 := HT''.out.cell 3; have v0 := blk_frozen HT''.out 0; have v1 := blk_frozen HT''.out 1; have v2 := blk_frozen HT''.out 2; have v3 := blk_frozen HT''.out 3; simp only [List.getElem?_toArray, List.getElem?_cons_zero, List.getElem?_cons_succ] at x0 x1 x2 x3; have X0 := (HT''.out.below (below_drew1 (Below.refl _ _))).cell 0; have X1 := (HT''.out.below (below_drew1 (Below.refl _ _))).cell 1; have X2 := (HT''.out.below (below_drew1 (Below.refl _ _))).cell 2; have X3 := (HT''.out.below (below_drew1 (Below.refl _ _))).cell 3; have V0 := blk_frozen (HT''.out.below (below_drew1 (Below.refl _ _))) 0; have V1 := blk_frozen (HT''.out.below (below_drew1 (Below.refl _ _))) 1; have V2 := blk_frozen (HT''.out.below (below_drew1 (Below.refl _ _))) 2; have V3 := blk_frozen (HT''.out.below (below_drew1 (Below.refl _ _))) 3; simp only [List.getElem?_toArray, List.getElem?_cons_zero, List.getElem?_cons_succ] at X0 X1 X2 X3
      have hb9 : ∀ a, (w2.setCell ⟨w.heap.size, 0, none⟩ a).cell? ⟨g, 0, none⟩ = some (.slice A7 r'.length c7) := fun a => (World.cell?_setCell_far w2 ⟨w.heap.size, 0, none⟩ ⟨g, 0, none⟩ a hq2).trans hb7
      go_region_law (fail)
      all_goals
        go_wp2_with (fail)
        refine bodyPost_ret (results_ctt rfl _ _ w.heap.size 26 #[.int .i64 y.f0, .int .u64 y.f1, .slice B2 y.f2.length e2, .slice B3 y.f3.length e3] (0, 0) _ rfl ((set4 H0''.out _ _ _ _).below (below_drew1 (Below.refl _ _))) Try.underlying26 rfl (by kernel_rfl)) rfl ?_
        unfold GetQ
        rw [HE.out, ← hwn]
        exact ⟨_, _, rfl, (HOK.out _ _ _ _).1, (HOK.out _ _ _ _).2.1, (HOK.out _ _ _ _).2.2⟩
theorem rget_c (w : World) (A : Option Addr) (c : Nat) (b : List Int) (hr : Rb w A b) (hc : b.length ≤ c) (hl : b.length < 140737488355328) (hu : U8 b) :
    Calls Try.prog 19 #[.slice A b.length c] w (GetQ w b) := by
  by_cases h : b.length ≤ 400
  · exact rget_lo w A c b hr hc hl hu h _ rfl
  · exact rget_hi w A c b hr hc hl hu (by omega) _ rfl
end Go.Proofs.Ytgohmganimamcaa.Term
/- hanaperref05.Get in the printed functions' form. -/
namespace Go.Proofs.Ytgohmganimamcaa.PZ
set_option linter.unusedVariables false
open Go.RowKit Go.Proofs.YtgohmganimamcaaW.PrintWords Go.Proofs.Ytgohmganimamcaa.Term
def hanaperref05_Get.f (l0 : List Int) : Option (Int × Int × List Int × (List (S26)) × Int × Int) := if (decide (l0.length < 140737488355328) && u8B l0) = true then some ((getT l0).1.f0, (getT l0).1.f1, (getT l0).1.f2, (getT l0).1.f3, (getT l0).2.1, (getT l0).2.2) else none
theorem hanaperref05_Get.calls (A0 : Option Addr) (c0 : Nat) (l0 : List Int) (r1 : Int) (r2 : Int) (r3 : List Int) (r4 : List (S26)) (r5 : Int) (r6 : Int) (w : World) (hr0 : Kd.C (Kd.int .u8) w A0 l0.length l0) (hc0 : l0.length ≤ c0) (h : hanaperref05_Get.f l0 = some (r1, r2, r3, r4, r5, r6)) :
    Calls Try.prog 19 #[.slice A0 l0.length c0] w fun e w' => ∃ v2_ v3_ : Value, e = .returned (.tuple #[.agg #[.int .i64 r1, .int .u64 r2, v2_, v3_], .int .i64 r5, .int .i64 r6]) ∧ Kd.R (Kd.int .u8) 5 w' w.heap.size (fun _ => True) v2_ r3 ∧ Kd.R k26 26 w' w.heap.size (fun k_ => some k_ ≠ (v2_ : Value).ownBlock) v3_ r4 ∧ Below w.heap.size w w' := by
  unfold hanaperref05_Get.f at h
  split at h
  · next hc =>
    simp only [Bool.and_eq_true, decide_eq_true_eq] at hc
    simp only [Option.some.injEq, Prod.mk.injEq] at h
    obtain ⟨rfl, rfl, rfl, rfl, rfl, rfl⟩ := h
    exact rget_c w A0 c0 l0 hr0 hc0 hc.1 (u8B_iff.1 hc.2)
  · cases h
end Go.Proofs.Ytgohmganimamcaa.PZ
-- printed for this claim by a program (pall.sh)
-- mended by fixpz.py
namespace Go.Proofs.Ytgohmganimamcaa.PZ
open Go.RowKit Go.Proofs.YtgohmganimamcaaW.PrintWords Go.Proofs.YtgohmganimamcaaW.PrintLast Go.Proofs.YtgohmganimamcaaW.PrintMore
attribute [local go_sem] max2_int min2_int max_two min_two max_three min_three max_four min_four   -- for this text's walks alone
set_option linter.unusedVariables false
set_option linter.unusedSimpArgs false

/-! ### hanaperref05_Same: function 20 -/
mutual
def hanaperref05_Same.j0 : Nat → Bool → Int → Int → List Int → List (S26) → Int → Int → List Int → List (S26) → Option (Bool)
  | 0, _, _, _, _, _, _, _, _, _ => none
  | k + 1, x34, x102000, x102001, x102002, x102003, x103000, x103001, x103002, x103003 => if x34 = true then (some false) else (hanaperref05_Same.l0 k 0 x102000 x102001 x102002 x102003 x103000 x103001 x103002 x103003)
def hanaperref05_Same.l0 : Nat → Int → Int → Int → List Int → List (S26) → Int → Int → List Int → List (S26) → Option (Bool)
  | 0, _, _, _, _, _, _, _, _, _ => none
  | k + 1, x5, x102000, x102001, x102002, x102003, x103000, x103001, x103002, x103003 => if x5 < (x102003.length : Int) then (if 0 ≤ x5 then (if x5 < (x103003.length : Int) then ((hanaperref05_Same.f k ((rd_T26 x102003 x5).f0) ((rd_T26 x102003 x5).f1) ((rd_T26 x102003 x5).f2) ((rd_T26 x102003 x5).f3) ((rd_T26 x103003 x5).f0) ((rd_T26 x103003 x5).f1) ((rd_T26 x103003 x5).f2) ((rd_T26 x103003 x5).f3)).bind fun t106 => (if t106 = true then (hanaperref05_Same.l0 k (wrap64 (x5 + 1)) x102000 x102001 x102002 x102003 x103000 x103001 x103002 x103003) else (some false))) else (none)) else (none)) else (some true)
def hanaperref05_Same.f : Nat → Int → Int → List Int → List (S26) → Int → Int → List Int → List (S26) → Option (Bool)
  | 0, _, _, _, _, _, _, _, _ => none
  | k + 1, a0_0, a0_1, l0_2, l0_3, a1_0, a1_1, l1_2, l1_3 => if a0_0 = a1_0 then (if a0_1 = a1_1 then ((hanaperref01_Same.f k l0_2 l1_2).bind fun t103 => (if t103 = true then (hanaperref05_Same.j0 k ((l0_3.length : Int) != (l1_3.length : Int)) a0_0 a0_1 l0_2 l0_3 a1_0 a1_1 l1_2 l1_3) else (hanaperref05_Same.j0 k true a0_0 a0_1 l0_2 l0_3 a1_0 a1_1 l1_2 l1_3))) else (hanaperref05_Same.j0 k true a0_0 a0_1 l0_2 l0_3 a1_0 a1_1 l1_2 l1_3)) else (hanaperref05_Same.j0 k true a0_0 a0_1 l0_2 l0_3 a1_0 a1_1 l1_2 l1_3)
end
theorem hanaperref05_Same.mono_l : ∀ k, (∀ y0 y1 y2 y3 y4 y5 y6 y7, LeO (hanaperref05_Same.f k y0 y1 y2 y3 y4 y5 y6 y7) (hanaperref05_Same.f (k + 1) y0 y1 y2 y3 y4 y5 y6 y7)) ∧ (∀ y0 y1 y2 y3 y4 y5 y6 y7 y8, LeO (hanaperref05_Same.j0 k y0 y1 y2 y3 y4 y5 y6 y7 y8) (hanaperref05_Same.j0 (k + 1) y0 y1 y2 y3 y4 y5 y6 y7 y8)) ∧ (∀ y0 y1 y2 y3 y4 y5 y6 y7 y8, LeO (hanaperref05_Same.l0 k y0 y1 y2 y3 y4 y5 y6 y7 y8) (hanaperref05_Same.l0 (k + 1) y0 y1 y2 y3 y4 y5 y6 y7 y8))
  | 0 => ⟨fun _ _ _ _ _ _ _ _ r h => by simp [hanaperref05_Same.f] at h, fun _ _ _ _ _ _ _ _ _ r h => by simp [hanaperref05_Same.j0] at h, fun _ _ _ _ _ _ _ _ _ r h => by simp [hanaperref05_Same.l0] at h⟩
  | k + 1 => by
    obtain ⟨ih0, ih1, ih2⟩ := hanaperref05_Same.mono_l k
    refine ⟨?_, ?_, ?_⟩
    · intro y0 y1 y2 y3 y4 y5 y6 y7
      unfold hanaperref05_Same.f
      repeat' first
      | (with_reducible exact ih0 _ _ _ _ _ _ _ _)
      | (with_reducible exact ih1 _ _ _ _ _ _ _ _ _)
      | (with_reducible exact ih2 _ _ _ _ _ _ _ _ _)
      | (with_reducible exact hanaperref01_Same.mono _ _ _)
      | (with_reducible exact LeO.refl _)
      | (with_reducible exact LeO.none _)
      | (with_reducible refine LeO.ite ?_ ?_)
      | (with_reducible refine LeO.bind ?_ (fun _ => ?_))
      | exact ih0 _ _ _ _ _ _ _ _
      | exact ih1 _ _ _ _ _ _ _ _ _
      | exact ih2 _ _ _ _ _ _ _ _ _
      | exact hanaperref01_Same.mono _ _ _
      | exact LeO.none _
      | refine LeO.ite ?_ ?_
      | refine LeO.bind ?_ (fun _ => ?_)
    · intro y0 y1 y2 y3 y4 y5 y6 y7 y8
      unfold hanaperref05_Same.j0
      repeat' first
      | (with_reducible exact ih0 _ _ _ _ _ _ _ _)
      | (with_reducible exact ih1 _ _ _ _ _ _ _ _ _)
      | (with_reducible exact ih2 _ _ _ _ _ _ _ _ _)
      | (with_reducible exact hanaperref01_Same.mono _ _ _)
      | (with_reducible exact LeO.refl _)
      | (with_reducible exact LeO.none _)
      | (with_reducible refine LeO.ite ?_ ?_)
      | (with_reducible refine LeO.bind ?_ (fun _ => ?_))
      | exact ih0 _ _ _ _ _ _ _ _
      | exact ih1 _ _ _ _ _ _ _ _ _
      | exact ih2 _ _ _ _ _ _ _ _ _
      | exact hanaperref01_Same.mono _ _ _
      | exact LeO.none _
      | refine LeO.ite ?_ ?_
      | refine LeO.bind ?_ (fun _ => ?_)
    · intro y0 y1 y2 y3 y4 y5 y6 y7 y8
      unfold hanaperref05_Same.l0
      repeat' first
      | (with_reducible exact ih0 _ _ _ _ _ _ _ _)
      | (with_reducible exact ih1 _ _ _ _ _ _ _ _ _)
      | (with_reducible exact ih2 _ _ _ _ _ _ _ _ _)
      | (with_reducible exact hanaperref01_Same.mono _ _ _)
      | (with_reducible exact LeO.refl _)
      | (with_reducible exact LeO.none _)
      | (with_reducible refine LeO.ite ?_ ?_)
      | (with_reducible refine LeO.bind ?_ (fun _ => ?_))
      | exact ih0 _ _ _ _ _ _ _ _
      | exact ih1 _ _ _ _ _ _ _ _ _
      | exact ih2 _ _ _ _ _ _ _ _ _
      | exact hanaperref01_Same.mono _ _ _
      | exact LeO.none _
      | refine LeO.ite ?_ ?_
      | refine LeO.bind ?_ (fun _ => ?_)
theorem hanaperref05_Same.mono : ∀ a0 a1 a2 a3 a4 a5 a6 a7 k, LeO (hanaperref05_Same.f k a0 a1 a2 a3 a4 a5 a6 a7) (hanaperref05_Same.f (k + 1) a0 a1 a2 a3 a4 a5 a6 a7) := by
  intro a0 a1 a2 a3 a4 a5 a6 a7 k
  obtain ⟨ih0, ih1, ih2⟩ := hanaperref05_Same.mono_l k
  exact ih0 a0 a1 a2 a3 a4 a5 a6 a7
def hanaperref05_Same.T6 : Bool × List (List Nat × List Nat) := (true, [([], []), ([0], [0]), ([], []), ([1, 2], [1, 2]), ([3], [3]), ([], []), ([5], [5]), ([], []), ([6, 7], [6, 7]), ([8], [8]), ([4, 9], [4, 9]), ([10], [10])])
def hanaperref05_Same.B6 : List Nat := [0, 1, 0, 7, 15, 0, 32, 0, 224, 480, 1023, 2047]
theorem hanaperref05_Same.tab6 : rtab .any (opsOf Try.f20 6) = hanaperref05_Same.T6 := by kernel_rfl
theorem hanaperref05_Same.bits6 : waitsOk hanaperref05_Same.T6.2 hanaperref05_Same.B6 = true := by kernel_rfl
set_option maxHeartbeats 8000000 in
set_option maxRecDepth 100000 in
theorem hanaperref05_Same.calls (k : Nat) : ∀ (a0_0 : Int) (a0_1 : Int) (A0_2 : Option Addr) (c0_2 : Nat) (l0_2 : List Int) (A0_3 : Option Addr) (c0_3 : Nat) (l0_3 : List (S26)) (a1_0 : Int) (a1_1 : Int) (A1_2 : Option Addr) (c1_2 : Nat) (l1_2 : List Int) (A1_3 : Option Addr) (c1_3 : Nat) (l1_3 : List (S26)) (r : Bool) (w : World) (hr0_2 : Kd.C (Kd.int .u8) w A0_2 l0_2.length l0_2) (hc0_2 : l0_2.length ≤ c0_2) (hr0_3 : Kd.C k26 w A0_3 l0_3.length l0_3) (hc0_3 : l0_3.length ≤ c0_3) (hr1_2 : Kd.C (Kd.int .u8) w A1_2 l1_2.length l1_2) (hc1_2 : l1_2.length ≤ c1_2) (hr1_3 : Kd.C k26 w A1_3 l1_3.length l1_3) (hc1_3 : l1_3.length ≤ c1_3) (h : hanaperref05_Same.f k a0_0 a0_1 l0_2 l0_3 a1_0 a1_1 l1_2 l1_3 = some r),
    Calls Try.prog 20 #[.agg #[.int .i64 a0_0, .int .u64 a0_1, .slice A0_2 l0_2.length c0_2, .slice A0_3 l0_3.length c0_3], .agg #[.int .i64 a1_0, .int .u64 a1_1, .slice A1_2 l1_2.length c1_2, .slice A1_3 l1_3.length c1_3]] w fun e w' => e = .returned (.bool r) ∧ Below w.heap.size w w' := by
  induction k using Nat.strongRecOn with
  | _ k ih =>
  intro a0_0 a0_1 A0_2 c0_2 l0_2 A0_3 c0_3 l0_3 a1_0 a1_1 A1_2 c1_2 l1_2 A1_3 c1_3 l1_3 r w hr0_2 hc0_2 hr0_3 hc0_3 hr1_2 hc1_2 hr1_3 hc1_3 h
  cases k with
  | zero => exact absurd h (by simp [hanaperref05_Same.f])
  | succ k =>
  simp only [hanaperref05_Same.f] at h
  have hu26 := Try.underlying26
  have HR0_2 := Aside0.mk hr0_2
  have HC0_2 := Aside0.mk hc0_2
  clear hr0_2 hc0_2
  have HR0_3 := Aside0.mk hr0_3
  have HC0_3 := Aside0.mk hc0_3
  clear hr0_3 hc0_3
  have HR1_2 := Aside0.mk hr1_2
  have HC1_2 := Aside0.mk hc1_2
  clear hr1_2 hc1_2
  have HR1_3 := Aside0.mk hr1_3
  have HC1_3 := Aside0.mk hc1_3
  clear hr1_3 hc1_3
  have HB := Aside0.mk (Below.refl w.heap.size w)
  have H : (if a0_0 = a1_0 then (if a0_1 = a1_1 then ((hanaperref01_Same.f k l0_2 l1_2).bind fun t103 => (if t103 = true then (hanaperref05_Same.j0 k ((l0_3.length : Int) != (l1_3.length : Int)) a0_0 a0_1 l0_2 l0_3 a1_0 a1_1 l1_2 l1_3) else (hanaperref05_Same.j0 k true a0_0 a0_1 l0_2 l0_3 a1_0 a1_1 l1_2 l1_3))) else (hanaperref05_Same.j0 k true a0_0 a0_1 l0_2 l0_3 a1_0 a1_1 l1_2 l1_3)) else (hanaperref05_Same.j0 k true a0_0 a0_1 l0_2 l0_3 a1_0 a1_1 l1_2 l1_3)) = some r := h
  clear h
  have HC3 := Aside0.mk H
  clear H
  go_enter Try.func20, Try.ntmps20
  go_upto_region 1 with (first | ((with_reducible refine gate_dst (N := 2) rfl ?_); (try (refine gate_guard (by rfl) ?_; dsimp only)); refine box_event ?hg (N := 2) ?hd (cs := #[.int .i64 a0_0, .int .u64 a0_1, .slice A0_2 l0_2.length c0_2, .slice A0_3 l0_3.length c0_3]) (t := 26) ?hr ?_; (case hd => rfl); (case hg => rfl); (case hr => first | (go_simp; done) | (go_simp; rfl)); intro gb101 hg w4 hbox hb; have n0_ := Aside0.mk (below_step (by repeat (first | (with_reducible first | exact HB.out | apply below_alloc | apply pw_below_drewN | apply below_drew1) | exact HB.out)) hb); have n1_ := Aside0.mk (hbox); have n2_ := Aside0.mk ((by rw [hg]; exact (below_size (by repeat (first | (with_reducible first | exact HB.out | apply below_alloc | apply pw_below_drewN | apply below_drew1) | exact HB.out))) : w.heap.size ≤ gb101)); have n3_ := Aside0.mk ((by rw [hg]; exact (below_size (by repeat (first | (with_reducible first | exact HB.out | apply below_alloc | apply pw_below_drewN | apply below_drew1) | exact HB.out))) : w.heap.size ≤ gb101)); clear HB; have HB := n0_; have BK101 := n1_; have GW101 := n2_; have GE101 := n3_; clear n0_ n1_ n2_ n3_; clear hb hbox hg) | ((with_reducible refine gate_dst (N := 3) rfl ?_); (try (refine gate_guard (by rfl) ?_; dsimp only)); refine box_event ?hg (N := 3) ?hd (cs := #[.int .i64 a1_0, .int .u64 a1_1, .slice A1_2 l1_2.length c1_2, .slice A1_3 l1_3.length c1_3]) (t := 26) ?hr ?_; (case hd => rfl); (case hg => rfl); (case hr => first | (go_simp; done) | (go_simp; rfl)); intro gb102 hg w5 hbox hb; have n0_ := Aside0.mk (blk_below (g := gb101) (o := .cells #[.int .i64 a0_0, .int .u64 a0_1, .slice A0_2 l0_2.length c0_2, .slice A0_3 l0_3.length c0_3] 26 (0, 0)) (by (with_reducible repeat (first | refine blk_drewN ?_ _ | refine blk_drew ?_ | refine blk_alloc ?_ _)); exact BK101.out) hb); have n1_ := Aside0.mk (below_step (by repeat (first | (with_reducible first | exact HB.out | apply below_alloc | apply pw_below_drewN | apply below_drew1 | refine below_set ?_ GE101.out) | exact HB.out)) hb); have n2_ := Aside0.mk (hbox); have n3_ := Aside0.mk ((by rw [hg]; exact (below_size (by repeat (first | (with_reducible first | exact HB.out | apply below_alloc | apply pw_below_drewN | apply below_drew1 | refine below_set ?_ GE101.out) | exact HB.out))) : w.heap.size ≤ gb102)); have n4_ := Aside0.mk ((by rw [hg]; exact (below_size (by repeat (first | (with_reducible first | exact HB.out | apply below_alloc | apply pw_below_drewN | apply below_drew1 | refine below_set ?_ GE101.out) | exact HB.out))) : w.heap.size ≤ gb102)); have n5_ := Aside0.mk ((by rw [hg]; exact Nat.ne_of_lt (blk_lt (g := gb101) (o := .cells #[.int .i64 a0_0, .int .u64 a0_1, .slice A0_2 l0_2.length c0_2, .slice A0_3 l0_3.length c0_3] 26 (0, 0)) (by (with_reducible repeat (first | refine blk_drewN ?_ _ | refine blk_drew ?_ | refine blk_alloc ?_ _)); exact BK101.out)) : gb101 ≠ gb102)); have n6_ := Aside0.mk ((by rw [hg]; exact Nat.ne_of_gt (blk_lt (g := gb101) (o := .cells #[.int .i64 a0_0, .int .u64 a0_1, .slice A0_2 l0_2.length c0_2, .slice A0_3 l0_3.length c0_3] 26 (0, 0)) (by (with_reducible repeat (first | refine blk_drewN ?_ _ | refine blk_drew ?_ | refine blk_alloc ?_ _)); exact BK101.out)) : gb102 ≠ gb101)); clear BK101; clear HB; have BK101 := n0_; have HB := n1_; have BK102 := n2_; have GW102 := n3_; have GE102 := n4_; have NB101_102 := n5_; have NB102_101 := n6_; clear n0_ n1_ n2_ n3_ n4_ n5_ n6_; clear hb hbox hg))
  (try simp only [Act.put, List.setIfInBounds_toArray, List.set_cons_zero, List.set_cons_succ])
  go_cut [34] (fun v34 wc => ∃ (kq : Nat) (x34_2 : Bool), v34 = .bool x34_2 ∧ Aside0 (hanaperref05_Same.j0 kq x34_2 a0_0 a0_1 l0_2 l0_3 a1_0 a1_1 l1_2 l1_3 = some r) ∧ Aside0 (kq ≤ k) ∧ Aside0 (wc.heap[gb101]? = some (.cells #[.int .i64 a0_0, .int .u64 a0_1, (.slice A0_2 l0_2.length c0_2), (.slice A0_3 l0_3.length c0_3)] 26 (0, 0))) ∧ Aside0 (wc.heap[gb102]? = some (.cells #[.int .i64 a1_0, .int .u64 a1_1, (.slice A1_2 l1_2.length c1_2), (.slice A1_3 l1_3.length c1_3)] 26 (0, 0))) ∧ Aside0 (Below w.heap.size w wc))
  case first =>
    have H := HC3.out
    clear HC3
    by_cases c6 : a0_0 = a1_0
    · rw [if_pos c6] at H
      have c6b0 : (a0_0 == a1_0) = true := beq_iff_eq.mpr c6
      have c6b1 : (a0_0 != a1_0) = false := bne_eq_false_iff_eq.mpr c6
      clear c6
      (first | rw [c6b0] | (simp only [i64_w, i32_w]; rw [c6b0]) | skip)
      by_cases c7 : a0_1 = a1_1
      · rw [if_pos c7] at H
        have c7b0 : (a0_1 == a1_1) = true := beq_iff_eq.mpr c7
        have c7b1 : (a0_1 != a1_1) = false := bne_eq_false_iff_eq.mpr c7
        clear c7
        replace H := Option.bind_eq_some_iff.mp H
        obtain ⟨t103, A80, H⟩ := H
        replace H : (if t103 = true then (hanaperref05_Same.j0 k ((l0_3.length : Int) != (l1_3.length : Int)) a0_0 a0_1 l0_2 l0_3 a1_0 a1_1 l1_2 l1_3) else (hanaperref05_Same.j0 k true a0_0 a0_1 l0_2 l0_3 a1_0 a1_1 l1_2 l1_3)) = some r := H
        have A8 := Aside0.mk A80
        clear A80
        by_cases c9 : t103 = true
        · subst c9
          have H1 : (hanaperref05_Same.j0 k ((l0_3.length : Int) != (l1_3.length : Int)) a0_0 a0_1 l0_2 l0_3 a1_0 a1_1 l1_2 l1_3) = some r := by rw [if_pos rfl] at H; exact H
          clear H
          have H := H1
          clear H1
          have H' := Aside0.mk H
          clear H
          have hnb10 := NB101_102.out
          have hnc10 := NB102_101.out
          have hcz11_0 : w5.cell? ⟨gb101, 0, none⟩ = some (.int .i64 a0_0) := (blk_cell BK101.out 0).trans rfl
          have hcz11_1 : w5.cell? ⟨gb101, 1, none⟩ = some (.int .u64 a0_1) := (blk_cell BK101.out 1).trans rfl
          have hcz11_2 : w5.cell? ⟨gb101, 2, none⟩ = some (.slice A0_2 l0_2.length c0_2) := (blk_cell BK101.out 2).trans rfl
          have hcz11_3 : w5.cell? ⟨gb101, 3, none⟩ = some (.slice A0_3 l0_3.length c0_3) := (blk_cell BK101.out 3).trans rfl
          have hfz11_0 := blk_frozen BK101.out 0
          have hfz11_1 := blk_frozen BK101.out 1
          have hfz11_2 := blk_frozen BK101.out 2
          have hfz11_3 := blk_frozen BK101.out 3
          have hcz12_0 : w5.cell? ⟨gb102, 0, none⟩ = some (.int .i64 a1_0) := (blk_cell BK102.out 0).trans rfl
          have hcz12_1 : w5.cell? ⟨gb102, 1, none⟩ = some (.int .u64 a1_1) := (blk_cell BK102.out 1).trans rfl
          have hcz12_2 : w5.cell? ⟨gb102, 2, none⟩ = some (.slice A1_2 l1_2.length c1_2) := (blk_cell BK102.out 2).trans rfl
          have hcz12_3 : w5.cell? ⟨gb102, 3, none⟩ = some (.slice A1_3 l1_3.length c1_3) := (blk_cell BK102.out 3).trans rfl
          have hfz12_0 := blk_frozen BK102.out 0
          have hfz12_1 := blk_frozen BK102.out 1
          have hfz12_2 := blk_frozen BK102.out 2
          have hfz12_3 := blk_frozen BK102.out 3
          go_wp2_with (first | (go_at_call 14; (with_reducible refine (hanaperref01_Same.calls k _ _ l0_2 _ _ l1_2 true _ ?side1 ?side2 ?side3 ?side4 A8.out).mono ?_); (case side1 => repeat (first | exact (Kd.C_below HR0_2.out HB.out) | (with_reducible refine Kd.C_alloc ?_ _) | (with_reducible refine Kd.C_drewN ?_ _) | (with_reducible refine Kd.C_drew ?_))); (case side2 => exact HC0_2.out); (case side3 => repeat (first | exact (Kd.C_below HR1_2.out HB.out) | (with_reducible refine Kd.C_alloc ?_ _) | (with_reducible refine Kd.C_drewN ?_ _) | (with_reducible refine Kd.C_drew ?_))); (case side4 => exact HC1_2.out); rintro e w' ⟨rfl, ⟨nd, rfl⟩⟩))
          go_meet
          case rel => exact ⟨_, (((l0_3.length : Int) != (l1_3.length : Int))), (by first | rfl | (simp; done) | (simp [*]; done)), H', ⟨by first | omega | exact Nat.le_refl _⟩, ⟨by (with_reducible repeat (first | refine blk_drewN ?_ _ | refine blk_drew ?_ | refine blk_alloc ?_ _)); exact BK101.out⟩, ⟨by (with_reducible repeat (first | refine blk_drewN ?_ _ | refine blk_drew ?_ | refine blk_alloc ?_ _)); exact BK102.out⟩, ⟨by repeat (first | (with_reducible first | exact HB.out | apply below_alloc | apply pw_below_drewN | apply below_drew1 | refine below_set ?_ GE101.out | refine below_set ?_ GE102.out) | exact HB.out)⟩⟩
        · replace c9 := Bool.eq_false_iff.mpr c9
          subst c9
          have H1 : (hanaperref05_Same.j0 k true a0_0 a0_1 l0_2 l0_3 a1_0 a1_1 l1_2 l1_3) = some r := by rw [if_neg (show ¬ (false = true) by decide)] at H; exact H
          clear H
          have H := H1
          clear H1
          have H' := Aside0.mk H
          clear H
          have hnb13 := NB101_102.out
          have hnc13 := NB102_101.out
          have hcz14_0 : w5.cell? ⟨gb101, 0, none⟩ = some (.int .i64 a0_0) := (blk_cell BK101.out 0).trans rfl
          have hcz14_1 : w5.cell? ⟨gb101, 1, none⟩ = some (.int .u64 a0_1) := (blk_cell BK101.out 1).trans rfl
          have hcz14_2 : w5.cell? ⟨gb101, 2, none⟩ = some (.slice A0_2 l0_2.length c0_2) := (blk_cell BK101.out 2).trans rfl
          have hcz14_3 : w5.cell? ⟨gb101, 3, none⟩ = some (.slice A0_3 l0_3.length c0_3) := (blk_cell BK101.out 3).trans rfl
          have hfz14_0 := blk_frozen BK101.out 0
          have hfz14_1 := blk_frozen BK101.out 1
          have hfz14_2 := blk_frozen BK101.out 2
          have hfz14_3 := blk_frozen BK101.out 3
          have hcz15_0 : w5.cell? ⟨gb102, 0, none⟩ = some (.int .i64 a1_0) := (blk_cell BK102.out 0).trans rfl
          have hcz15_1 : w5.cell? ⟨gb102, 1, none⟩ = some (.int .u64 a1_1) := (blk_cell BK102.out 1).trans rfl
          have hcz15_2 : w5.cell? ⟨gb102, 2, none⟩ = some (.slice A1_2 l1_2.length c1_2) := (blk_cell BK102.out 2).trans rfl
          have hcz15_3 : w5.cell? ⟨gb102, 3, none⟩ = some (.slice A1_3 l1_3.length c1_3) := (blk_cell BK102.out 3).trans rfl
          have hfz15_0 := blk_frozen BK102.out 0
          have hfz15_1 := blk_frozen BK102.out 1
          have hfz15_2 := blk_frozen BK102.out 2
          have hfz15_3 := blk_frozen BK102.out 3
          go_wp2_with (first | (go_at_call 14; (with_reducible refine (hanaperref01_Same.calls k _ _ l0_2 _ _ l1_2 false _ ?side1 ?side2 ?side3 ?side4 A8.out).mono ?_); (case side1 => repeat (first | exact (Kd.C_below HR0_2.out HB.out) | (with_reducible refine Kd.C_alloc ?_ _) | (with_reducible refine Kd.C_drewN ?_ _) | (with_reducible refine Kd.C_drew ?_))); (case side2 => exact HC0_2.out); (case side3 => repeat (first | exact (Kd.C_below HR1_2.out HB.out) | (with_reducible refine Kd.C_alloc ?_ _) | (with_reducible refine Kd.C_drewN ?_ _) | (with_reducible refine Kd.C_drew ?_))); (case side4 => exact HC1_2.out); rintro e w' ⟨rfl, ⟨nd, rfl⟩⟩))
          go_meet
          case rel => exact ⟨_, (true), (by first | rfl | (simp; done) | (simp [*]; done)), H', ⟨by first | omega | exact Nat.le_refl _⟩, ⟨by (with_reducible repeat (first | refine blk_drewN ?_ _ | refine blk_drew ?_ | refine blk_alloc ?_ _)); exact BK101.out⟩, ⟨by (with_reducible repeat (first | refine blk_drewN ?_ _ | refine blk_drew ?_ | refine blk_alloc ?_ _)); exact BK102.out⟩, ⟨by repeat (first | (with_reducible first | exact HB.out | apply below_alloc | apply pw_below_drewN | apply below_drew1 | refine below_set ?_ GE101.out | refine below_set ?_ GE102.out) | exact HB.out)⟩⟩
      · rw [if_neg c7] at H
        have c7b0 : (a0_1 == a1_1) = false := beq_eq_false_iff_ne.mpr c7
        have c7b1 : (a0_1 != a1_1) = true := bne_iff_ne.mpr c7
        have H' := Aside0.mk H
        clear H
        have hnb16 := NB101_102.out
        have hnc16 := NB102_101.out
        have hcz17_0 : w5.cell? ⟨gb101, 0, none⟩ = some (.int .i64 a0_0) := (blk_cell BK101.out 0).trans rfl
        have hcz17_1 : w5.cell? ⟨gb101, 1, none⟩ = some (.int .u64 a0_1) := (blk_cell BK101.out 1).trans rfl
        have hcz17_2 : w5.cell? ⟨gb101, 2, none⟩ = some (.slice A0_2 l0_2.length c0_2) := (blk_cell BK101.out 2).trans rfl
        have hcz17_3 : w5.cell? ⟨gb101, 3, none⟩ = some (.slice A0_3 l0_3.length c0_3) := (blk_cell BK101.out 3).trans rfl
        have hfz17_0 := blk_frozen BK101.out 0
        have hfz17_1 := blk_frozen BK101.out 1
        have hfz17_2 := blk_frozen BK101.out 2
        have hfz17_3 := blk_frozen BK101.out 3
        have hcz18_0 : w5.cell? ⟨gb102, 0, none⟩ = some (.int .i64 a1_0) := (blk_cell BK102.out 0).trans rfl
        have hcz18_1 : w5.cell? ⟨gb102, 1, none⟩ = some (.int .u64 a1_1) := (blk_cell BK102.out 1).trans rfl
        have hcz18_2 : w5.cell? ⟨gb102, 2, none⟩ = some (.slice A1_2 l1_2.length c1_2) := (blk_cell BK102.out 2).trans rfl
        have hcz18_3 : w5.cell? ⟨gb102, 3, none⟩ = some (.slice A1_3 l1_3.length c1_3) := (blk_cell BK102.out 3).trans rfl
        have hfz18_0 := blk_frozen BK102.out 0
        have hfz18_1 := blk_frozen BK102.out 1
        have hfz18_2 := blk_frozen BK102.out 2
        have hfz18_3 := blk_frozen BK102.out 3
        go_wp2
        go_meet
        case rel => exact ⟨_, (true), (by first | rfl | (simp; done) | (simp [*]; done)), H', ⟨by first | omega | exact Nat.le_refl _⟩, ⟨by (with_reducible repeat (first | refine blk_drewN ?_ _ | refine blk_drew ?_ | refine blk_alloc ?_ _)); exact BK101.out⟩, ⟨by (with_reducible repeat (first | refine blk_drewN ?_ _ | refine blk_drew ?_ | refine blk_alloc ?_ _)); exact BK102.out⟩, ⟨by repeat (first | (with_reducible first | exact HB.out | apply below_alloc | apply pw_below_drewN | apply below_drew1 | refine below_set ?_ GE101.out | refine below_set ?_ GE102.out) | exact HB.out)⟩⟩
    · rw [if_neg c6] at H
      have c6b0 : (a0_0 == a1_0) = false := beq_eq_false_iff_ne.mpr c6
      have c6b1 : (a0_0 != a1_0) = true := bne_iff_ne.mpr c6
      (first | rw [c6b0] | (simp only [i64_w, i32_w]; rw [c6b0]) | skip)
      have H' := Aside0.mk H
      clear H
      have hnb19 := NB101_102.out
      have hnc19 := NB102_101.out
      have hcz20_0 : w5.cell? ⟨gb101, 0, none⟩ = some (.int .i64 a0_0) := (blk_cell BK101.out 0).trans rfl
      have hcz20_1 : w5.cell? ⟨gb101, 1, none⟩ = some (.int .u64 a0_1) := (blk_cell BK101.out 1).trans rfl
      have hcz20_2 : w5.cell? ⟨gb101, 2, none⟩ = some (.slice A0_2 l0_2.length c0_2) := (blk_cell BK101.out 2).trans rfl
      have hcz20_3 : w5.cell? ⟨gb101, 3, none⟩ = some (.slice A0_3 l0_3.length c0_3) := (blk_cell BK101.out 3).trans rfl
      have hfz20_0 := blk_frozen BK101.out 0
      have hfz20_1 := blk_frozen BK101.out 1
      have hfz20_2 := blk_frozen BK101.out 2
      have hfz20_3 := blk_frozen BK101.out 3
      have hcz21_0 : w5.cell? ⟨gb102, 0, none⟩ = some (.int .i64 a1_0) := (blk_cell BK102.out 0).trans rfl
      have hcz21_1 : w5.cell? ⟨gb102, 1, none⟩ = some (.int .u64 a1_1) := (blk_cell BK102.out 1).trans rfl
      have hcz21_2 : w5.cell? ⟨gb102, 2, none⟩ = some (.slice A1_2 l1_2.length c1_2) := (blk_cell BK102.out 2).trans rfl
      have hcz21_3 : w5.cell? ⟨gb102, 3, none⟩ = some (.slice A1_3 l1_3.length c1_3) := (blk_cell BK102.out 3).trans rfl
      have hfz21_0 := blk_frozen BK102.out 0
      have hfz21_1 := blk_frozen BK102.out 1
      have hfz21_2 := blk_frozen BK102.out 2
      have hfz21_3 := blk_frozen BK102.out 3
      go_wp2
      go_meet
      case rel => exact ⟨_, (true), (by first | rfl | (simp; done) | (simp [*]; done)), H', ⟨by first | omega | exact Nat.le_refl _⟩, ⟨by (with_reducible repeat (first | refine blk_drewN ?_ _ | refine blk_drew ?_ | refine blk_alloc ?_ _)); exact BK101.out⟩, ⟨by (with_reducible repeat (first | refine blk_drewN ?_ _ | refine blk_drew ?_ | refine blk_alloc ?_ _)); exact BK102.out⟩, ⟨by repeat (first | (with_reducible first | exact HB.out | apply below_alloc | apply pw_below_drewN | apply below_drew1 | refine below_set ?_ GE101.out | refine below_set ?_ GE102.out) | exact HB.out)⟩⟩
  case rest =>
    clear HC3
    try clear c1
    try clear c2
    try clear p2
    try clear c6
    try clear c6b0
    try clear c6b1
    try clear c7
    try clear c7b0
    try clear c7b1
    try clear c9
    try clear c10
    try clear c13
    try clear c16
    try clear c19
    try clear c20
    try clear hcz11_0
    try clear hcz11_1
    try clear hcz11_2
    try clear hcz11_3
    try clear hcz12_0
    try clear hcz12_1
    try clear hcz12_2
    try clear hcz12_3
    try clear hcz14_0
    try clear hcz14_1
    try clear hcz14_2
    try clear hcz14_3
    try clear hcz15_0
    try clear hcz15_1
    try clear hcz15_2
    try clear hcz15_3
    try clear hcz17_0
    try clear hcz17_1
    try clear hcz17_2
    try clear hcz17_3
    try clear hcz18_0
    try clear hcz18_1
    try clear hcz18_2
    try clear hcz18_3
    try clear hcz20_0
    try clear hcz20_1
    try clear hcz20_2
    try clear hcz20_3
    try clear hcz21_0
    try clear hcz21_1
    try clear hcz21_2
    try clear hcz21_3
    try clear hfz11_0
    try clear hfz11_1
    try clear hfz11_2
    try clear hfz11_3
    try clear hfz12_0
    try clear hfz12_1
    try clear hfz12_2
    try clear hfz12_3
    try clear hfz14_0
    try clear hfz14_1
    try clear hfz14_2
    try clear hfz14_3
    try clear hfz15_0
    try clear hfz15_1
    try clear hfz15_2
    try clear hfz15_3
    try clear hfz17_0
    try clear hfz17_1
    try clear hfz17_2
    try clear hfz17_3
    try clear hfz18_0
    try clear hfz18_1
    try clear hfz18_2
    try clear hfz18_3
    try clear hfz20_0
    try clear hfz20_1
    try clear hfz20_2
    try clear hfz20_3
    try clear hfz21_0
    try clear hfz21_1
    try clear hfz21_2
    try clear hfz21_3
    obtain ⟨kq, x34_2, rfl, HA, HJ2, BK101, BK102, HB⟩ := hcut
    cases kq with
    | zero => exact absurd HA.out (by simp [hanaperref05_Same.j0])
    | succ kj2 =>
      have H := HA.out
      clear HA
      simp only [hanaperref05_Same.j0] at H
      by_cases c22 : x34_2 = true
      · subst c22
        have H1 : (some false) = some r := by rw [if_pos rfl] at H; exact H
        clear H
        have H := H1
        clear H1
        obtain rfl := Option.some.inj H
        go_wp2
        go_ret
        exact ⟨by first | rfl | (simp [errW_none, errW_some] <;> rfl) | (simp [*, errW_none, errW_some] <;> rfl), by repeat (first | (with_reducible first | exact HB.out | apply below_alloc | apply pw_below_drewN | apply below_drew1 | refine below_set ?_ GE101.out | refine below_set ?_ GE102.out) | exact HB.out)⟩
      · replace c22 := Bool.eq_false_iff.mpr c22
        subst c22
        have H1 : (hanaperref05_Same.l0 kj2 0 a0_0 a0_1 l0_2 l0_3 a1_0 a1_1 l1_2 l1_3) = some r := by rw [if_neg (show ¬ (false = true) by decide)] at H; exact H
        clear H
        have H := H1
        clear H1
        have H' := Aside0.mk H
        clear H
        go_wp2
        go_loopg [5] kj2 (fun kq v5 w' => ∃ (x5_2 : Int), v5 = .int .i64 x5_2 ∧ Aside0 (hanaperref05_Same.l0 kq x5_2 a0_0 a0_1 l0_2 l0_3 a1_0 a1_1 l1_2 l1_3 = some r) ∧ Aside0 (kq ≤ kj2) ∧ Aside0 (w'.heap[gb101]? = some (.cells #[.int .i64 a0_0, .int .u64 a0_1, (.slice A0_2 l0_2.length c0_2), (.slice A0_3 l0_3.length c0_3)] 26 (0, 0))) ∧ Aside0 (w'.heap[gb102]? = some (.cells #[.int .i64 a1_0, .int .u64 a1_1, (.slice A1_2 l1_2.length c1_2), (.slice A1_3 l1_3.length c1_3)] 26 (0, 0))) ∧ Aside0 (Below w.heap.size w w'))
        case atStart => exact ⟨(0), (by first | rfl | (simp; done) | (simp [*]; done)), H', ⟨Nat.le_refl _⟩, ⟨by (with_reducible repeat (first | refine blk_drewN ?_ _ | refine blk_drew ?_ | refine blk_alloc ?_ _)); exact BK101.out⟩, ⟨by (with_reducible repeat (first | refine blk_drewN ?_ _ | refine blk_drew ?_ | refine blk_alloc ?_ _)); exact BK102.out⟩, ⟨by repeat (first | (with_reducible first | exact HB.out | apply below_alloc | apply pw_below_drewN | apply below_drew1 | refine below_set ?_ GE101.out | refine below_set ?_ GE102.out) | exact HB.out)⟩⟩
        case round =>
          clear H'
          try clear c1
          try clear c2
          try clear p2
          try clear c6
          try clear c6b0
          try clear c6b1
          try clear c7
          try clear c7b0
          try clear c7b1
          try clear c9
          try clear c10
          try clear c13
          try clear c16
          try clear c19
          try clear c20
          try clear c22
          try clear hcz11_0
          try clear hcz11_1
          try clear hcz11_2
          try clear hcz11_3
          try clear hcz12_0
          try clear hcz12_1
          try clear hcz12_2
          try clear hcz12_3
          try clear hcz14_0
          try clear hcz14_1
          try clear hcz14_2
          try clear hcz14_3
          try clear hcz15_0
          try clear hcz15_1
          try clear hcz15_2
          try clear hcz15_3
          try clear hcz17_0
          try clear hcz17_1
          try clear hcz17_2
          try clear hcz17_3
          try clear hcz18_0
          try clear hcz18_1
          try clear hcz18_2
          try clear hcz18_3
          try clear hcz20_0
          try clear hcz20_1
          try clear hcz20_2
          try clear hcz20_3
          try clear hcz21_0
          try clear hcz21_1
          try clear hcz21_2
          try clear hcz21_3
          try clear hfz11_0
          try clear hfz11_1
          try clear hfz11_2
          try clear hfz11_3
          try clear hfz12_0
          try clear hfz12_1
          try clear hfz12_2
          try clear hfz12_3
          try clear hfz14_0
          try clear hfz14_1
          try clear hfz14_2
          try clear hfz14_3
          try clear hfz15_0
          try clear hfz15_1
          try clear hfz15_2
          try clear hfz15_3
          try clear hfz17_0
          try clear hfz17_1
          try clear hfz17_2
          try clear hfz17_3
          try clear hfz18_0
          try clear hfz18_1
          try clear hfz18_2
          try clear hfz18_3
          try clear hfz20_0
          try clear hfz20_1
          try clear hfz20_2
          try clear hfz20_3
          try clear hfz21_0
          try clear hfz21_1
          try clear hfz21_2
          try clear hfz21_3
          try clear p2
          obtain ⟨x5_2, rfl, HA, HK2, BK101, BK102, HB⟩ := hrel
          cases gk with
          | zero => exact absurd HA.out (by simp [hanaperref05_Same.l0])
          | succ k2 =>
            have H := HA.out
            clear HA
            simp only [hanaperref05_Same.l0] at H
            by_cases c23 : x5_2 < (l0_3.length : Int)
            · rw [if_pos c23] at H
              have c23b0 : decide (x5_2 < (l0_3.length : Int)) = true := decide_eq_true c23
              clear c23
              by_cases c24 : 0 ≤ x5_2
              · rw [if_pos c24] at H
                have c24b0 : decide (0 ≤ x5_2) = true := decide_eq_true c24
                clear c24
                by_cases c25 : x5_2 < (l1_3.length : Int)
                · rw [if_pos c25] at H
                  have c25b0 : decide (x5_2 < (l1_3.length : Int)) = true := decide_eq_true c25
                  clear c25
                  replace H := Option.bind_eq_some_iff.mp H
                  obtain ⟨t106, A260, H⟩ := H
                  replace H : (if t106 = true then (hanaperref05_Same.l0 k2 (wrap64 (x5_2 + 1)) a0_0 a0_1 l0_2 l0_3 a1_0 a1_1 l1_2 l1_3) else (some false)) = some r := H
                  have A26 := Aside0.mk A260
                  clear A260
                  by_cases c27 : t106 = true
                  · subst c27
                    have H1 : (hanaperref05_Same.l0 k2 (wrap64 (x5_2 + 1)) a0_0 a0_1 l0_2 l0_3 a1_0 a1_1 l1_2 l1_3) = some r := by rw [if_pos rfl] at H; exact H
                    clear H
                    have H := H1
                    clear H1
                    have H' := Aside0.mk H
                    clear H
                    have hnb28 := NB101_102.out
                    have hnc28 := NB102_101.out
                    have hcz29_0 : wr.cell? ⟨gb101, 0, none⟩ = some (.int .i64 a0_0) := (blk_cell BK101.out 0).trans rfl
                    have hcz29_1 : wr.cell? ⟨gb101, 1, none⟩ = some (.int .u64 a0_1) := (blk_cell BK101.out 1).trans rfl
                    have hcz29_2 : wr.cell? ⟨gb101, 2, none⟩ = some (.slice A0_2 l0_2.length c0_2) := (blk_cell BK101.out 2).trans rfl
                    have hcz29_3 : wr.cell? ⟨gb101, 3, none⟩ = some (.slice A0_3 l0_3.length c0_3) := (blk_cell BK101.out 3).trans rfl
                    have hfz29_0 := blk_frozen BK101.out 0
                    have hfz29_1 := blk_frozen BK101.out 1
                    have hfz29_2 := blk_frozen BK101.out 2
                    have hfz29_3 := blk_frozen BK101.out 3
                    try go_wp2
                    have n0_ := Aside0.mk (blk_drew BK101.out)
                    have n1_ := Aside0.mk (blk_drew BK102.out)
                    have n2_ := Aside0.mk (below_drew1 HB.out)
                    clear BK101
                    clear BK102
                    clear HB
                    have BK101 := n0_
                    have BK102 := n1_
                    have HB := n2_
                    clear n0_ n1_ n2_
                    have p104 : 0 ≤ (x5_2 : Int) := of_decide_eq_true (by first | (with_reducible assumption) | assumption)
                    have q104 : x5_2 < (l0_3.length : Int) := of_decide_eq_true (by first | (with_reducible assumption) | assumption)
                    obtain ⟨ad104, A104_2, c104_2, A104_3, c104_3, e104, hx104_0, hx104_1, hx104_2, hx104_3, hl104_2, hi104_2, hl104_3, hi104_3⟩ := at_T26 HR0_3.out x5_2 p104 q104
                    have hw104_3 := hx104_3
                    have hw104_2 := hx104_2
                    have hw104_1 := hx104_1
                    have hw104_0 := hx104_0
                    cases e104
                    replace hx104_0 := (HB.out.cell (World.block_lt_of_cell? w _ hx104_0)).trans hx104_0
                    replace hx104_1 := (HB.out.cell (World.block_lt_of_cell? w _ hx104_1)).trans hx104_1
                    replace hx104_2 := (HB.out.cell (World.block_lt_of_cell? w _ hx104_2)).trans hx104_2
                    replace hx104_3 := (HB.out.cell (World.block_lt_of_cell? w _ hx104_3)).trans hx104_3
                    have HR104_2 := Aside0.mk hi104_2
                    have HC104_2 := Aside0.mk hl104_2
                    clear hi104_2 hl104_2
                    have HR104_3 := Aside0.mk hi104_3
                    have HC104_3 := Aside0.mk hl104_3
                    clear hi104_3 hl104_3
                    replace p104 := eq_true p104
                    replace q104 := eq_true q104
                    have p105 : 0 ≤ (x5_2 : Int) := of_decide_eq_true (by first | (with_reducible assumption) | assumption)
                    have q105 : x5_2 < (l1_3.length : Int) := of_decide_eq_true (by first | (with_reducible assumption) | assumption)
                    obtain ⟨ad105, A105_2, c105_2, A105_3, c105_3, e105, hx105_0, hx105_1, hx105_2, hx105_3, hl105_2, hi105_2, hl105_3, hi105_3⟩ := at_T26 HR1_3.out x5_2 p105 q105
                    have hw105_3 := hx105_3
                    have hw105_2 := hx105_2
                    have hw105_1 := hx105_1
                    have hw105_0 := hx105_0
                    cases e105
                    replace hx105_0 := (HB.out.cell (World.block_lt_of_cell? w _ hx105_0)).trans hx105_0
                    replace hx105_1 := (HB.out.cell (World.block_lt_of_cell? w _ hx105_1)).trans hx105_1
                    replace hx105_2 := (HB.out.cell (World.block_lt_of_cell? w _ hx105_2)).trans hx105_2
                    replace hx105_3 := (HB.out.cell (World.block_lt_of_cell? w _ hx105_3)).trans hx105_3
                    have HR105_2 := Aside0.mk hi105_2
                    have HC105_2 := Aside0.mk hl105_2
                    clear hi105_2 hl105_2
                    have HR105_3 := Aside0.mk hi105_3
                    have HC105_3 := Aside0.mk hl105_3
                    clear hi105_3 hl105_3
                    replace p105 := eq_true p105
                    replace q105 := eq_true q105
                    refine start_ (n := 12) (S := fun w' => w'.cell? ⟨gb101, 0, none⟩ = some (.int .i64 a0_0) ∧ w'.cell? ⟨gb101, 1, none⟩ = some (.int .u64 a0_1) ∧ w'.cell? ⟨gb101, 2, none⟩ = some (.slice A0_2 l0_2.length c0_2) ∧ w'.cell? ⟨gb101, 3, none⟩ = some (.slice (some ad104) l0_3.length c0_3) ∧ w'.cell? ⟨gb102, 0, none⟩ = some (.int .i64 a1_0) ∧ w'.cell? ⟨gb102, 1, none⟩ = some (.int .u64 a1_1) ∧ w'.cell? ⟨gb102, 2, none⟩ = some (.slice A1_2 l1_2.length c1_2) ∧ w'.cell? ⟨gb102, 3, none⟩ = some (.slice (some ad105) l1_3.length c1_3) ∧ w'.cell? (ad104.add ((x5_2).toNat * 4)) = some (.int .i64 ((rd_T26 l0_3 x5_2).f0)) ∧ w'.cell? ⟨(ad104.add ((x5_2).toNat * 4)).block, (ad104.add ((x5_2).toNat * 4)).off + 1, none⟩ = some (.int .u64 ((rd_T26 l0_3 x5_2).f1)) ∧ w'.cell? ⟨(ad104.add ((x5_2).toNat * 4)).block, (ad104.add ((x5_2).toNat * 4)).off + 2, none⟩ = some (.slice A104_2 ((rd_T26 l0_3 x5_2).f2).length c104_2) ∧ w'.cell? ⟨(ad104.add ((x5_2).toNat * 4)).block, (ad104.add ((x5_2).toNat * 4)).off + 3, none⟩ = some (.slice A104_3 ((rd_T26 l0_3 x5_2).f3).length c104_3) ∧ w'.cell? (ad105.add ((x5_2).toNat * 4)) = some (.int .i64 ((rd_T26 l1_3 x5_2).f0)) ∧ w'.cell? ⟨(ad105.add ((x5_2).toNat * 4)).block, (ad105.add ((x5_2).toNat * 4)).off + 1, none⟩ = some (.int .u64 ((rd_T26 l1_3 x5_2).f1)) ∧ w'.cell? ⟨(ad105.add ((x5_2).toNat * 4)).block, (ad105.add ((x5_2).toNat * 4)).off + 2, none⟩ = some (.slice A105_2 ((rd_T26 l1_3 x5_2).f2).length c105_2) ∧ w'.cell? ⟨(ad105.add ((x5_2).toNat * 4)).block, (ad105.add ((x5_2).toNat * 4)).off + 3, none⟩ = some (.slice A105_3 ((rd_T26 l1_3 x5_2).f3).length c105_3)) (ds := []) #[false, false, false, false, false, false, false, false, false, false, false, false] (by kernel_rfl) rfl rfl ⟨(blk_cell BK101.out 0).trans rfl, (blk_cell BK101.out 1).trans rfl, (blk_cell BK101.out 2).trans rfl, (blk_cell BK101.out 3).trans rfl, (blk_cell BK102.out 0).trans rfl, (blk_cell BK102.out 1).trans rfl, (blk_cell BK102.out 2).trans rfl, (blk_cell BK102.out 3).trans rfl, ((HB.out.cell (World.block_lt_of_cell? w _ hw104_0)).trans hw104_0), ((HB.out.cell (World.block_lt_of_cell? w _ hw104_1)).trans hw104_1), ((HB.out.cell (World.block_lt_of_cell? w _ hw104_2)).trans hw104_2), ((HB.out.cell (World.block_lt_of_cell? w _ hw104_3)).trans hw104_3), ((HB.out.cell (World.block_lt_of_cell? w _ hw105_0)).trans hw105_0), ((HB.out.cell (World.block_lt_of_cell? w _ hw105_1)).trans hw105_1), ((HB.out.cell (World.block_lt_of_cell? w _ hw105_2)).trans hw105_2), ((HB.out.cell (World.block_lt_of_cell? w _ hw105_3)).trans hw105_3)⟩ (fun hHeld => ?_); refine with_tabW hanaperref05_Same.tab6 hanaperref05_Same.bits6 (fun HT_ HW_ => ?_)
                    generalize wr.drew = w30 at BK101 BK102 HB HR104_2 HR104_3 HR105_2 HR105_3 hx104_0 hx104_1 hx104_2 hx104_3 hx105_0 hx105_1 hx105_2 hx105_3 hHeld ⊢
                    refine pure_ (i := 0) (N := some 42) (v := ?_) (a' := ?_) #[true, false, false, false, false, false, false, false, false, false, false, false] rfl rfl (any_of HT_.out (by kernel_rfl)) (fun _ _ _ h => h) (Or.inl ⟨by rfl, ?_⟩) ?_ ?_
                    rotate_left
                    · intro w'
                      go_simp
                      with_reducible rfl
                    rotate_left
                    · simp only [Act.put, List.setIfInBounds_toArray, List.set_cons_zero, List.set_cons_succ, i64_w, i32_w]
                      rfl
                    refine pure_ (i := 2) (N := some 44) (v := ?_) (a' := ?_) #[true, false, true, false, false, false, false, false, false, false, false, false] rfl rfl (any_of HT_.out (by kernel_rfl)) (fun _ _ _ h => h) (Or.inl ⟨by rfl, ?_⟩) ?_ ?_
                    rotate_left
                    · intro w'
                      go_simp
                      with_reducible rfl
                    rotate_left
                    · simp only [Act.put, List.setIfInBounds_toArray, List.set_cons_zero, List.set_cons_succ, i64_w, i32_w]
                      rfl
                    refine pure_ (i := 5) (N := some 47) (v := ?_) (a' := ?_) #[true, false, true, false, false, true, false, false, false, false, false, false] rfl rfl (any_of HT_.out (by kernel_rfl)) (fun _ _ _ h => h) (Or.inl ⟨by rfl, ?_⟩) ?_ ?_
                    rotate_left
                    · intro w'
                      go_simp
                      with_reducible rfl
                    rotate_left
                    · simp only [Act.put, List.setIfInBounds_toArray, List.set_cons_zero, List.set_cons_succ, i64_w, i32_w]
                      rfl
                    refine pure_ (i := 7) (N := some 49) (v := ?_) (a' := ?_) #[true, false, true, false, false, true, false, true, false, false, false, false] rfl rfl (any_of HT_.out (by kernel_rfl)) (fun _ _ _ h => h) (Or.inl ⟨by rfl, ?_⟩) ?_ ?_
                    rotate_left
                    · intro w'
                      go_simp
                      with_reducible rfl
                    rotate_left
                    · simp only [Act.put, List.setIfInBounds_toArray, List.set_cons_zero, List.set_cons_succ, i64_w, i32_w]
                      rfl
                    refine take_ (i := 1) (N := some 43) (v := ?_) (a' := ?_) #[true, true, true, false, false, true, false, true, false, false, false, false] rfl rfl (take_ofW HT_.out HW_.out (by kernel_rfl)) (fun _ _ _ h => h) (Or.inl ⟨by rfl, ?_⟩) hHeld ?_ ?_
                    rotate_left
                    · rintro w' ⟨s0, s1, s2, s3, s4, s5, s6, s7, s8, s9, s10, s11, s12, s13, s14, s15⟩
                      go_simp
                      with_reducible rfl
                    rotate_left
                    · simp only [Act.put, List.setIfInBounds_toArray, List.set_cons_zero, List.set_cons_succ, i64_w, i32_w]
                      rfl
                    refine pure_ (i := 3) (N := some 45) (v := ?_) (a' := ?_) #[true, true, true, true, false, true, false, true, false, false, false, false] rfl rfl (any_of HT_.out (by kernel_rfl)) (fun _ _ _ h => h) (Or.inl ⟨by rfl, ?_⟩) ?_ ?_
                    rotate_left
                    · intro w'
                      go_simp
                      with_reducible rfl
                    rotate_left
                    · simp only [Act.put, List.setIfInBounds_toArray, List.set_cons_zero, List.set_cons_succ, i64_w, i32_w]
                      rfl
                    refine take_ (i := 4) (N := some 46) (v := ?_) (a' := ?_) #[true, true, true, true, true, true, false, true, false, false, false, false] rfl rfl (take_ofW HT_.out HW_.out (by kernel_rfl)) (fun _ _ _ h => h) (Or.inl ⟨by rfl, ?_⟩) hHeld ?_ ?_
                    rotate_left
                    · rintro w' ⟨s0, s1, s2, s3, s4, s5, s6, s7, s8, s9, s10, s11, s12, s13, s14, s15⟩
                      go_simp
                      with_reducible rfl
                    rotate_left
                    · simp only [Act.put, List.setIfInBounds_toArray, List.set_cons_zero, List.set_cons_succ, i64_w, i32_w]
                      rfl
                    refine take_ (i := 6) (N := some 48) (v := ?_) (a' := ?_) #[true, true, true, true, true, true, true, true, false, false, false, false] rfl rfl (take_ofW HT_.out HW_.out (by kernel_rfl)) (fun _ _ _ h => h) (Or.inl ⟨by rfl, ?_⟩) hHeld ?_ ?_
                    rotate_left
                    · rintro w' ⟨s0, s1, s2, s3, s4, s5, s6, s7, s8, s9, s10, s11, s12, s13, s14, s15⟩
                      go_simp
                      with_reducible rfl
                    rotate_left
                    · simp only [Act.put, List.setIfInBounds_toArray, List.set_cons_zero, List.set_cons_succ, i64_w, i32_w]
                      rfl
                    refine pure_ (i := 8) (N := some 50) (v := ?_) (a' := ?_) #[true, true, true, true, true, true, true, true, true, false, false, false] rfl rfl (any_of HT_.out (by kernel_rfl)) (fun _ _ _ h => h) (Or.inl ⟨by rfl, ?_⟩) ?_ ?_
                    rotate_left
                    · intro w'
                      go_simp
                      with_reducible rfl
                    rotate_left
                    · simp only [Act.put, List.setIfInBounds_toArray, List.set_cons_zero, List.set_cons_succ, i64_w, i32_w]
                      rfl
                    refine take_ (i := 9) (N := some 51) (v := ?_) (a' := ?_) #[true, true, true, true, true, true, true, true, true, true, false, false] rfl rfl (take_ofW HT_.out HW_.out (by kernel_rfl)) (fun _ _ _ h => h) (Or.inl ⟨by rfl, ?_⟩) hHeld ?_ ?_
                    rotate_left
                    · rintro w' ⟨s0, s1, s2, s3, s4, s5, s6, s7, s8, s9, s10, s11, s12, s13, s14, s15⟩
                      go_simp
                      with_reducible rfl
                    rotate_left
                    · simp only [Act.put, List.setIfInBounds_toArray, List.set_cons_zero, List.set_cons_succ, i64_w, i32_w]
                      rfl
                    refine one_ (i := 10) (N := some 52) #[true, true, true, true, true, true, true, true, true, true, true, false] rfl rfl (one_of HT_.out (by kernel_rfl)) (by decide) (fun K hK => ?_)
                    refine goes_ Try.func20 (by kernel_rfl) rfl #[.agg #[.int .i64 ((rd_T26 l0_3 x5_2).f0), .int .u64 ((rd_T26 l0_3 x5_2).f1), .slice A104_2 ((rd_T26 l0_3 x5_2).f2).length c104_2, .slice A104_3 ((rd_T26 l0_3 x5_2).f3).length c104_3], .agg #[.int .i64 ((rd_T26 l1_3 x5_2).f0), .int .u64 ((rd_T26 l1_3 x5_2).f1), .slice A105_2 ((rd_T26 l1_3 x5_2).f2).length c105_2, .slice A105_3 ((rd_T26 l1_3 x5_2).f3).length c105_3]] (by rfl) rfl rfl (by (try simp only [List.map_toArray, List.map_cons, List.map_nil]); first | done | rfl | (simp only [List.length_drop, List.length_take]; rfl)) ?_
                    with_reducible refine (ih k2 (by have := HJ2.out; have := HK2.out; omega) ((rd_T26 l0_3 x5_2).f0) ((rd_T26 l0_3 x5_2).f1) _ _ ((rd_T26 l0_3 x5_2).f2) _ _ ((rd_T26 l0_3 x5_2).f3) ((rd_T26 l1_3 x5_2).f0) ((rd_T26 l1_3 x5_2).f1) _ _ ((rd_T26 l1_3 x5_2).f2) _ _ ((rd_T26 l1_3 x5_2).f3) true _ ?side1 ?side2 ?side3 ?side4 ?side5 ?side6 ?side7 ?side8 A26.out).mono ?_
                    (case side1 => repeat (first | exact (Kd.C_below HR104_2.out HB.out) | (with_reducible refine Kd.C_alloc ?_ _) | (with_reducible refine Kd.C_drewN ?_ _) | (with_reducible refine Kd.C_drew ?_)))
                    (case side2 => exact HC104_2.out)
                    (case side3 => repeat (first | exact (Kd.C_below HR104_3.out HB.out) | (with_reducible refine Kd.C_alloc ?_ _) | (with_reducible refine Kd.C_drewN ?_ _) | (with_reducible refine Kd.C_drew ?_)))
                    (case side4 => exact HC104_3.out)
                    (case side5 => repeat (first | exact (Kd.C_below HR105_2.out HB.out) | (with_reducible refine Kd.C_alloc ?_ _) | (with_reducible refine Kd.C_drewN ?_ _) | (with_reducible refine Kd.C_drew ?_)))
                    (case side6 => exact HC105_2.out)
                    (case side7 => repeat (first | exact (Kd.C_below HR105_3.out HB.out) | (with_reducible refine Kd.C_alloc ?_ _) | (with_reducible refine Kd.C_drewN ?_ _) | (with_reducible refine Kd.C_drew ?_)))
                    (case side8 => exact HC105_3.out)
                    rintro e w31 ⟨rfl, hb⟩
                    refine ⟨_, rfl, ?_⟩
                    have n0_ := Aside0.mk (blk_below (g := gb101) (o := .cells #[.int .i64 a0_0, .int .u64 a0_1, .slice A0_2 l0_2.length c0_2, .slice (some ad104) l0_3.length c0_3] 26 (0, 0)) (by (with_reducible repeat (first | refine blk_drewN ?_ _ | refine blk_drew ?_ | refine blk_alloc ?_ _)); exact BK101.out) hb)
                    have n1_ := Aside0.mk (blk_below (g := gb102) (o := .cells #[.int .i64 a1_0, .int .u64 a1_1, .slice A1_2 l1_2.length c1_2, .slice (some ad105) l1_3.length c1_3] 26 (0, 0)) (by (with_reducible repeat (first | refine blk_drewN ?_ _ | refine blk_drew ?_ | refine blk_alloc ?_ _)); exact BK102.out) hb)
                    have n2_ := Aside0.mk (below_step (by repeat (first | (with_reducible first | exact HB.out | apply below_alloc | apply pw_below_drewN | apply below_drew1 | refine below_set ?_ GE101.out | refine below_set ?_ GE102.out) | exact HB.out)) hb)
                    clear BK101
                    clear BK102
                    clear HB
                    have BK101 := n0_
                    have BK102 := n1_
                    have HB := n2_
                    clear n0_ n1_ n2_
                    (try clear hb)
                    (try clear hb2)
                    (try clear hk)
                    (try clear hi)
                    refine hK.out _ _ ⟨(blk_cell BK101.out 0).trans rfl, (blk_cell BK101.out 1).trans rfl, (blk_cell BK101.out 2).trans rfl, (blk_cell BK101.out 3).trans rfl, (blk_cell BK102.out 0).trans rfl, (blk_cell BK102.out 1).trans rfl, (blk_cell BK102.out 2).trans rfl, (blk_cell BK102.out 3).trans rfl, ((HB.out.cell (World.block_lt_of_cell? w _ hw104_0)).trans hw104_0), ((HB.out.cell (World.block_lt_of_cell? w _ hw104_1)).trans hw104_1), ((HB.out.cell (World.block_lt_of_cell? w _ hw104_2)).trans hw104_2), ((HB.out.cell (World.block_lt_of_cell? w _ hw104_3)).trans hw104_3), ((HB.out.cell (World.block_lt_of_cell? w _ hw105_0)).trans hw105_0), ((HB.out.cell (World.block_lt_of_cell? w _ hw105_1)).trans hw105_1), ((HB.out.cell (World.block_lt_of_cell? w _ hw105_2)).trans hw105_2), ((HB.out.cell (World.block_lt_of_cell? w _ hw105_3)).trans hw105_3)⟩ (fun hHeld => ?_)
                    clear hK K
                    refine norm_ (a' := ?_) ?_ ?_
                    rotate_left
                    · show Act.put _ (some 52) _ = _
                      simp only [Act.put, List.setIfInBounds_toArray, List.set_cons_zero, List.set_cons_succ, i64_w, i32_w]
                      rfl
                    refine pure_ (i := 11) (N := some 53) (v := ?_) (a' := ?_) #[true, true, true, true, true, true, true, true, true, true, true, true] rfl rfl (any_of HT_.out (by kernel_rfl)) (fun _ _ _ h => h) (Or.inl ⟨by rfl, ?_⟩) ?_ ?_
                    rotate_left
                    · intro w'
                      go_simp
                      with_reducible rfl
                    rotate_left
                    · simp only [Act.put, List.setIfInBounds_toArray, List.set_cons_zero, List.set_cons_succ, i64_w, i32_w]
                      rfl
                    refine done_ (done_of HT_.out (by kernel_rfl)) ?_
                    try go_wp2
                    go_roundg k2
                    case measure => have := HJ2.out; have := HK2.out; omega
                    case rel => exact ⟨(wrap64 (x5_2 + 1)), (by first | rfl | (simp; done) | (simp [*]; done)), H', ⟨by have := HJ2.out; have := HK2.out; omega⟩, ⟨by (with_reducible repeat (first | refine blk_drewN ?_ _ | refine blk_drew ?_ | refine blk_alloc ?_ _)); exact BK101.out⟩, ⟨by (with_reducible repeat (first | refine blk_drewN ?_ _ | refine blk_drew ?_ | refine blk_alloc ?_ _)); exact BK102.out⟩, ⟨by repeat (first | (with_reducible first | exact HB.out | apply below_alloc | apply pw_below_drewN | apply below_drew1 | refine below_set ?_ GE101.out | refine below_set ?_ GE102.out) | exact HB.out)⟩⟩
                  · replace c27 := Bool.eq_false_iff.mpr c27
                    subst c27
                    have H1 : (some false) = some r := by rw [if_neg (show ¬ (false = true) by decide)] at H; exact H
                    clear H
                    have H := H1
                    clear H1
                    obtain rfl := Option.some.inj H
                    have hnb32 := NB101_102.out
                    have hnc32 := NB102_101.out
                    have hcz33_0 : wr.cell? ⟨gb101, 0, none⟩ = some (.int .i64 a0_0) := (blk_cell BK101.out 0).trans rfl
                    have hcz33_1 : wr.cell? ⟨gb101, 1, none⟩ = some (.int .u64 a0_1) := (blk_cell BK101.out 1).trans rfl
                    have hcz33_2 : wr.cell? ⟨gb101, 2, none⟩ = some (.slice A0_2 l0_2.length c0_2) := (blk_cell BK101.out 2).trans rfl
                    have hcz33_3 : wr.cell? ⟨gb101, 3, none⟩ = some (.slice A0_3 l0_3.length c0_3) := (blk_cell BK101.out 3).trans rfl
                    have hfz33_0 := blk_frozen BK101.out 0
                    have hfz33_1 := blk_frozen BK101.out 1
                    have hfz33_2 := blk_frozen BK101.out 2
                    have hfz33_3 := blk_frozen BK101.out 3
                    try go_wp2
                    have n0_ := Aside0.mk (blk_drew BK101.out)
                    have n1_ := Aside0.mk (blk_drew BK102.out)
                    have n2_ := Aside0.mk (below_drew1 HB.out)
                    clear BK101
                    clear BK102
                    clear HB
                    have BK101 := n0_
                    have BK102 := n1_
                    have HB := n2_
                    clear n0_ n1_ n2_
                    have p104 : 0 ≤ (x5_2 : Int) := of_decide_eq_true (by first | (with_reducible assumption) | assumption)
                    have q104 : x5_2 < (l0_3.length : Int) := of_decide_eq_true (by first | (with_reducible assumption) | assumption)
                    obtain ⟨ad104, A104_2, c104_2, A104_3, c104_3, e104, hx104_0, hx104_1, hx104_2, hx104_3, hl104_2, hi104_2, hl104_3, hi104_3⟩ := at_T26 HR0_3.out x5_2 p104 q104
                    have hw104_3 := hx104_3
                    have hw104_2 := hx104_2
                    have hw104_1 := hx104_1
                    have hw104_0 := hx104_0
                    cases e104
                    replace hx104_0 := (HB.out.cell (World.block_lt_of_cell? w _ hx104_0)).trans hx104_0
                    replace hx104_1 := (HB.out.cell (World.block_lt_of_cell? w _ hx104_1)).trans hx104_1
                    replace hx104_2 := (HB.out.cell (World.block_lt_of_cell? w _ hx104_2)).trans hx104_2
                    replace hx104_3 := (HB.out.cell (World.block_lt_of_cell? w _ hx104_3)).trans hx104_3
                    have HR104_2 := Aside0.mk hi104_2
                    have HC104_2 := Aside0.mk hl104_2
                    clear hi104_2 hl104_2
                    have HR104_3 := Aside0.mk hi104_3
                    have HC104_3 := Aside0.mk hl104_3
                    clear hi104_3 hl104_3
                    replace p104 := eq_true p104
                    replace q104 := eq_true q104
                    have p105 : 0 ≤ (x5_2 : Int) := of_decide_eq_true (by first | (with_reducible assumption) | assumption)
                    have q105 : x5_2 < (l1_3.length : Int) := of_decide_eq_true (by first | (with_reducible assumption) | assumption)
                    obtain ⟨ad105, A105_2, c105_2, A105_3, c105_3, e105, hx105_0, hx105_1, hx105_2, hx105_3, hl105_2, hi105_2, hl105_3, hi105_3⟩ := at_T26 HR1_3.out x5_2 p105 q105
                    have hw105_3 := hx105_3
                    have hw105_2 := hx105_2
                    have hw105_1 := hx105_1
                    have hw105_0 := hx105_0
                    cases e105
                    replace hx105_0 := (HB.out.cell (World.block_lt_of_cell? w _ hx105_0)).trans hx105_0
                    replace hx105_1 := (HB.out.cell (World.block_lt_of_cell? w _ hx105_1)).trans hx105_1
                    replace hx105_2 := (HB.out.cell (World.block_lt_of_cell? w _ hx105_2)).trans hx105_2
                    replace hx105_3 := (HB.out.cell (World.block_lt_of_cell? w _ hx105_3)).trans hx105_3
                    have HR105_2 := Aside0.mk hi105_2
                    have HC105_2 := Aside0.mk hl105_2
                    clear hi105_2 hl105_2
                    have HR105_3 := Aside0.mk hi105_3
                    have HC105_3 := Aside0.mk hl105_3
                    clear hi105_3 hl105_3
                    replace p105 := eq_true p105
                    replace q105 := eq_true q105
                    refine start_ (n := 12) (S := fun w' => w'.cell? ⟨gb101, 0, none⟩ = some (.int .i64 a0_0) ∧ w'.cell? ⟨gb101, 1, none⟩ = some (.int .u64 a0_1) ∧ w'.cell? ⟨gb101, 2, none⟩ = some (.slice A0_2 l0_2.length c0_2) ∧ w'.cell? ⟨gb101, 3, none⟩ = some (.slice (some ad104) l0_3.length c0_3) ∧ w'.cell? ⟨gb102, 0, none⟩ = some (.int .i64 a1_0) ∧ w'.cell? ⟨gb102, 1, none⟩ = some (.int .u64 a1_1) ∧ w'.cell? ⟨gb102, 2, none⟩ = some (.slice A1_2 l1_2.length c1_2) ∧ w'.cell? ⟨gb102, 3, none⟩ = some (.slice (some ad105) l1_3.length c1_3) ∧ w'.cell? (ad104.add ((x5_2).toNat * 4)) = some (.int .i64 ((rd_T26 l0_3 x5_2).f0)) ∧ w'.cell? ⟨(ad104.add ((x5_2).toNat * 4)).block, (ad104.add ((x5_2).toNat * 4)).off + 1, none⟩ = some (.int .u64 ((rd_T26 l0_3 x5_2).f1)) ∧ w'.cell? ⟨(ad104.add ((x5_2).toNat * 4)).block, (ad104.add ((x5_2).toNat * 4)).off + 2, none⟩ = some (.slice A104_2 ((rd_T26 l0_3 x5_2).f2).length c104_2) ∧ w'.cell? ⟨(ad104.add ((x5_2).toNat * 4)).block, (ad104.add ((x5_2).toNat * 4)).off + 3, none⟩ = some (.slice A104_3 ((rd_T26 l0_3 x5_2).f3).length c104_3) ∧ w'.cell? (ad105.add ((x5_2).toNat * 4)) = some (.int .i64 ((rd_T26 l1_3 x5_2).f0)) ∧ w'.cell? ⟨(ad105.add ((x5_2).toNat * 4)).block, (ad105.add ((x5_2).toNat * 4)).off + 1, none⟩ = some (.int .u64 ((rd_T26 l1_3 x5_2).f1)) ∧ w'.cell? ⟨(ad105.add ((x5_2).toNat * 4)).block, (ad105.add ((x5_2).toNat * 4)).off + 2, none⟩ = some (.slice A105_2 ((rd_T26 l1_3 x5_2).f2).length c105_2) ∧ w'.cell? ⟨(ad105.add ((x5_2).toNat * 4)).block, (ad105.add ((x5_2).toNat * 4)).off + 3, none⟩ = some (.slice A105_3 ((rd_T26 l1_3 x5_2).f3).length c105_3)) (ds := []) #[false, false, false, false, false, false, false, false, false, false, false, false] (by kernel_rfl) rfl rfl ⟨(blk_cell BK101.out 0).trans rfl, (blk_cell BK101.out 1).trans rfl, (blk_cell BK101.out 2).trans rfl, (blk_cell BK101.out 3).trans rfl, (blk_cell BK102.out 0).trans rfl, (blk_cell BK102.out 1).trans rfl, (blk_cell BK102.out 2).trans rfl, (blk_cell BK102.out 3).trans rfl, ((HB.out.cell (World.block_lt_of_cell? w _ hw104_0)).trans hw104_0), ((HB.out.cell (World.block_lt_of_cell? w _ hw104_1)).trans hw104_1), ((HB.out.cell (World.block_lt_of_cell? w _ hw104_2)).trans hw104_2), ((HB.out.cell (World.block_lt_of_cell? w _ hw104_3)).trans hw104_3), ((HB.out.cell (World.block_lt_of_cell? w _ hw105_0)).trans hw105_0), ((HB.out.cell (World.block_lt_of_cell? w _ hw105_1)).trans hw105_1), ((HB.out.cell (World.block_lt_of_cell? w _ hw105_2)).trans hw105_2), ((HB.out.cell (World.block_lt_of_cell? w _ hw105_3)).trans hw105_3)⟩ (fun hHeld => ?_); refine with_tabW hanaperref05_Same.tab6 hanaperref05_Same.bits6 (fun HT_ HW_ => ?_)
                    generalize wr.drew = w34 at BK101 BK102 HB HR104_2 HR104_3 HR105_2 HR105_3 hx104_0 hx104_1 hx104_2 hx104_3 hx105_0 hx105_1 hx105_2 hx105_3 hHeld ⊢
                    refine pure_ (i := 0) (N := some 42) (v := ?_) (a' := ?_) #[true, false, false, false, false, false, false, false, false, false, false, false] rfl rfl (any_of HT_.out (by kernel_rfl)) (fun _ _ _ h => h) (Or.inl ⟨by rfl, ?_⟩) ?_ ?_
                    rotate_left
                    · intro w'
                      go_simp
                      with_reducible rfl
                    rotate_left
                    · simp only [Act.put, List.setIfInBounds_toArray, List.set_cons_zero, List.set_cons_succ, i64_w, i32_w]
                      rfl
                    refine pure_ (i := 2) (N := some 44) (v := ?_) (a' := ?_) #[true, false, true, false, false, false, false, false, false, false, false, false] rfl rfl (any_of HT_.out (by kernel_rfl)) (fun _ _ _ h => h) (Or.inl ⟨by rfl, ?_⟩) ?_ ?_
                    rotate_left
                    · intro w'
                      go_simp
                      with_reducible rfl
                    rotate_left
                    · simp only [Act.put, List.setIfInBounds_toArray, List.set_cons_zero, List.set_cons_succ, i64_w, i32_w]
                      rfl
                    refine pure_ (i := 5) (N := some 47) (v := ?_) (a' := ?_) #[true, false, true, false, false, true, false, false, false, false, false, false] rfl rfl (any_of HT_.out (by kernel_rfl)) (fun _ _ _ h => h) (Or.inl ⟨by rfl, ?_⟩) ?_ ?_
                    rotate_left
                    · intro w'
                      go_simp
                      with_reducible rfl
                    rotate_left
                    · simp only [Act.put, List.setIfInBounds_toArray, List.set_cons_zero, List.set_cons_succ, i64_w, i32_w]
                      rfl
                    refine pure_ (i := 7) (N := some 49) (v := ?_) (a' := ?_) #[true, false, true, false, false, true, false, true, false, false, false, false] rfl rfl (any_of HT_.out (by kernel_rfl)) (fun _ _ _ h => h) (Or.inl ⟨by rfl, ?_⟩) ?_ ?_
                    rotate_left
                    · intro w'
                      go_simp
                      with_reducible rfl
                    rotate_left
                    · simp only [Act.put, List.setIfInBounds_toArray, List.set_cons_zero, List.set_cons_succ, i64_w, i32_w]
                      rfl
                    refine take_ (i := 1) (N := some 43) (v := ?_) (a' := ?_) #[true, true, true, false, false, true, false, true, false, false, false, false] rfl rfl (take_ofW HT_.out HW_.out (by kernel_rfl)) (fun _ _ _ h => h) (Or.inl ⟨by rfl, ?_⟩) hHeld ?_ ?_
                    rotate_left
                    · rintro w' ⟨s0, s1, s2, s3, s4, s5, s6, s7, s8, s9, s10, s11, s12, s13, s14, s15⟩
                      go_simp
                      with_reducible rfl
                    rotate_left
                    · simp only [Act.put, List.setIfInBounds_toArray, List.set_cons_zero, List.set_cons_succ, i64_w, i32_w]
                      rfl
                    refine pure_ (i := 3) (N := some 45) (v := ?_) (a' := ?_) #[true, true, true, true, false, true, false, true, false, false, false, false] rfl rfl (any_of HT_.out (by kernel_rfl)) (fun _ _ _ h => h) (Or.inl ⟨by rfl, ?_⟩) ?_ ?_
                    rotate_left
                    · intro w'
                      go_simp
                      with_reducible rfl
                    rotate_left
                    · simp only [Act.put, List.setIfInBounds_toArray, List.set_cons_zero, List.set_cons_succ, i64_w, i32_w]
                      rfl
                    refine take_ (i := 4) (N := some 46) (v := ?_) (a' := ?_) #[true, true, true, true, true, true, false, true, false, false, false, false] rfl rfl (take_ofW HT_.out HW_.out (by kernel_rfl)) (fun _ _ _ h => h) (Or.inl ⟨by rfl, ?_⟩) hHeld ?_ ?_
                    rotate_left
                    · rintro w' ⟨s0, s1, s2, s3, s4, s5, s6, s7, s8, s9, s10, s11, s12, s13, s14, s15⟩
                      go_simp
                      with_reducible rfl
                    rotate_left
                    · simp only [Act.put, List.setIfInBounds_toArray, List.set_cons_zero, List.set_cons_succ, i64_w, i32_w]
                      rfl
                    refine take_ (i := 6) (N := some 48) (v := ?_) (a' := ?_) #[true, true, true, true, true, true, true, true, false, false, false, false] rfl rfl (take_ofW HT_.out HW_.out (by kernel_rfl)) (fun _ _ _ h => h) (Or.inl ⟨by rfl, ?_⟩) hHeld ?_ ?_
                    rotate_left
                    · rintro w' ⟨s0, s1, s2, s3, s4, s5, s6, s7, s8, s9, s10, s11, s12, s13, s14, s15⟩
                      go_simp
                      with_reducible rfl
                    rotate_left
                    · simp only [Act.put, List.setIfInBounds_toArray, List.set_cons_zero, List.set_cons_succ, i64_w, i32_w]
                      rfl
                    refine pure_ (i := 8) (N := some 50) (v := ?_) (a' := ?_) #[true, true, true, true, true, true, true, true, true, false, false, false] rfl rfl (any_of HT_.out (by kernel_rfl)) (fun _ _ _ h => h) (Or.inl ⟨by rfl, ?_⟩) ?_ ?_
                    rotate_left
                    · intro w'
                      go_simp
                      with_reducible rfl
                    rotate_left
                    · simp only [Act.put, List.setIfInBounds_toArray, List.set_cons_zero, List.set_cons_succ, i64_w, i32_w]
                      rfl
                    refine take_ (i := 9) (N := some 51) (v := ?_) (a' := ?_) #[true, true, true, true, true, true, true, true, true, true, false, false] rfl rfl (take_ofW HT_.out HW_.out (by kernel_rfl)) (fun _ _ _ h => h) (Or.inl ⟨by rfl, ?_⟩) hHeld ?_ ?_
                    rotate_left
                    · rintro w' ⟨s0, s1, s2, s3, s4, s5, s6, s7, s8, s9, s10, s11, s12, s13, s14, s15⟩
                      go_simp
                      with_reducible rfl
                    rotate_left
                    · simp only [Act.put, List.setIfInBounds_toArray, List.set_cons_zero, List.set_cons_succ, i64_w, i32_w]
                      rfl
                    refine one_ (i := 10) (N := some 52) #[true, true, true, true, true, true, true, true, true, true, true, false] rfl rfl (one_of HT_.out (by kernel_rfl)) (by decide) (fun K hK => ?_)
                    refine goes_ Try.func20 (by kernel_rfl) rfl #[.agg #[.int .i64 ((rd_T26 l0_3 x5_2).f0), .int .u64 ((rd_T26 l0_3 x5_2).f1), .slice A104_2 ((rd_T26 l0_3 x5_2).f2).length c104_2, .slice A104_3 ((rd_T26 l0_3 x5_2).f3).length c104_3], .agg #[.int .i64 ((rd_T26 l1_3 x5_2).f0), .int .u64 ((rd_T26 l1_3 x5_2).f1), .slice A105_2 ((rd_T26 l1_3 x5_2).f2).length c105_2, .slice A105_3 ((rd_T26 l1_3 x5_2).f3).length c105_3]] (by rfl) rfl rfl (by (try simp only [List.map_toArray, List.map_cons, List.map_nil]); first | done | rfl | (simp only [List.length_drop, List.length_take]; rfl)) ?_
                    with_reducible refine (ih k2 (by have := HJ2.out; have := HK2.out; omega) ((rd_T26 l0_3 x5_2).f0) ((rd_T26 l0_3 x5_2).f1) _ _ ((rd_T26 l0_3 x5_2).f2) _ _ ((rd_T26 l0_3 x5_2).f3) ((rd_T26 l1_3 x5_2).f0) ((rd_T26 l1_3 x5_2).f1) _ _ ((rd_T26 l1_3 x5_2).f2) _ _ ((rd_T26 l1_3 x5_2).f3) false _ ?side1 ?side2 ?side3 ?side4 ?side5 ?side6 ?side7 ?side8 A26.out).mono ?_
                    (case side1 => repeat (first | exact (Kd.C_below HR104_2.out HB.out) | (with_reducible refine Kd.C_alloc ?_ _) | (with_reducible refine Kd.C_drewN ?_ _) | (with_reducible refine Kd.C_drew ?_)))
                    (case side2 => exact HC104_2.out)
                    (case side3 => repeat (first | exact (Kd.C_below HR104_3.out HB.out) | (with_reducible refine Kd.C_alloc ?_ _) | (with_reducible refine Kd.C_drewN ?_ _) | (with_reducible refine Kd.C_drew ?_)))
                    (case side4 => exact HC104_3.out)
                    (case side5 => repeat (first | exact (Kd.C_below HR105_2.out HB.out) | (with_reducible refine Kd.C_alloc ?_ _) | (with_reducible refine Kd.C_drewN ?_ _) | (with_reducible refine Kd.C_drew ?_)))
                    (case side6 => exact HC105_2.out)
                    (case side7 => repeat (first | exact (Kd.C_below HR105_3.out HB.out) | (with_reducible refine Kd.C_alloc ?_ _) | (with_reducible refine Kd.C_drewN ?_ _) | (with_reducible refine Kd.C_drew ?_)))
                    (case side8 => exact HC105_3.out)
                    rintro e w35 ⟨rfl, hb⟩
                    refine ⟨_, rfl, ?_⟩
                    have n0_ := Aside0.mk (blk_below (g := gb101) (o := .cells #[.int .i64 a0_0, .int .u64 a0_1, .slice A0_2 l0_2.length c0_2, .slice (some ad104) l0_3.length c0_3] 26 (0, 0)) (by (with_reducible repeat (first | refine blk_drewN ?_ _ | refine blk_drew ?_ | refine blk_alloc ?_ _)); exact BK101.out) hb)
                    have n1_ := Aside0.mk (blk_below (g := gb102) (o := .cells #[.int .i64 a1_0, .int .u64 a1_1, .slice A1_2 l1_2.length c1_2, .slice (some ad105) l1_3.length c1_3] 26 (0, 0)) (by (with_reducible repeat (first | refine blk_drewN ?_ _ | refine blk_drew ?_ | refine blk_alloc ?_ _)); exact BK102.out) hb)
                    have n2_ := Aside0.mk (below_step (by repeat (first | (with_reducible first | exact HB.out | apply below_alloc | apply pw_below_drewN | apply below_drew1 | refine below_set ?_ GE101.out | refine below_set ?_ GE102.out) | exact HB.out)) hb)
                    clear BK101
                    clear BK102
                    clear HB
                    have BK101 := n0_
                    have BK102 := n1_
                    have HB := n2_
                    clear n0_ n1_ n2_
                    (try clear hb)
                    (try clear hb2)
                    (try clear hk)
                    (try clear hi)
                    refine hK.out _ _ ⟨(blk_cell BK101.out 0).trans rfl, (blk_cell BK101.out 1).trans rfl, (blk_cell BK101.out 2).trans rfl, (blk_cell BK101.out 3).trans rfl, (blk_cell BK102.out 0).trans rfl, (blk_cell BK102.out 1).trans rfl, (blk_cell BK102.out 2).trans rfl, (blk_cell BK102.out 3).trans rfl, ((HB.out.cell (World.block_lt_of_cell? w _ hw104_0)).trans hw104_0), ((HB.out.cell (World.block_lt_of_cell? w _ hw104_1)).trans hw104_1), ((HB.out.cell (World.block_lt_of_cell? w _ hw104_2)).trans hw104_2), ((HB.out.cell (World.block_lt_of_cell? w _ hw104_3)).trans hw104_3), ((HB.out.cell (World.block_lt_of_cell? w _ hw105_0)).trans hw105_0), ((HB.out.cell (World.block_lt_of_cell? w _ hw105_1)).trans hw105_1), ((HB.out.cell (World.block_lt_of_cell? w _ hw105_2)).trans hw105_2), ((HB.out.cell (World.block_lt_of_cell? w _ hw105_3)).trans hw105_3)⟩ (fun hHeld => ?_)
                    clear hK K
                    refine norm_ (a' := ?_) ?_ ?_
                    rotate_left
                    · show Act.put _ (some 52) _ = _
                      simp only [Act.put, List.setIfInBounds_toArray, List.set_cons_zero, List.set_cons_succ, i64_w, i32_w]
                      rfl
                    refine pure_ (i := 11) (N := some 53) (v := ?_) (a' := ?_) #[true, true, true, true, true, true, true, true, true, true, true, true] rfl rfl (any_of HT_.out (by kernel_rfl)) (fun _ _ _ h => h) (Or.inl ⟨by rfl, ?_⟩) ?_ ?_
                    rotate_left
                    · intro w'
                      go_simp
                      with_reducible rfl
                    rotate_left
                    · simp only [Act.put, List.setIfInBounds_toArray, List.set_cons_zero, List.set_cons_succ, i64_w, i32_w]
                      rfl
                    refine done_ (done_of HT_.out (by kernel_rfl)) ?_
                    try go_wp2
                    go_ret
                    exact ⟨by first | rfl | (simp [errW_none, errW_some] <;> rfl) | (simp [*, errW_none, errW_some] <;> rfl), by repeat (first | (with_reducible first | exact HB.out | apply below_alloc | apply pw_below_drewN | apply below_drew1 | refine below_set ?_ GE101.out | refine below_set ?_ GE102.out) | exact HB.out)⟩
                · rw [if_neg c25] at H
                  exact absurd H (by simp)
              · rw [if_neg c24] at H
                exact absurd H (by simp)
            · rw [if_neg c23] at H
              have c23b0 : decide (x5_2 < (l0_3.length : Int)) = false := decide_eq_false c23
              clear c23
              obtain rfl := Option.some.inj H
              have hnb36 := NB101_102.out
              have hnc36 := NB102_101.out
              have hcz37_0 : wr.cell? ⟨gb101, 0, none⟩ = some (.int .i64 a0_0) := (blk_cell BK101.out 0).trans rfl
              have hcz37_1 : wr.cell? ⟨gb101, 1, none⟩ = some (.int .u64 a0_1) := (blk_cell BK101.out 1).trans rfl
              have hcz37_2 : wr.cell? ⟨gb101, 2, none⟩ = some (.slice A0_2 l0_2.length c0_2) := (blk_cell BK101.out 2).trans rfl
              have hcz37_3 : wr.cell? ⟨gb101, 3, none⟩ = some (.slice A0_3 l0_3.length c0_3) := (blk_cell BK101.out 3).trans rfl
              have hfz37_0 := blk_frozen BK101.out 0
              have hfz37_1 := blk_frozen BK101.out 1
              have hfz37_2 := blk_frozen BK101.out 2
              have hfz37_3 := blk_frozen BK101.out 3
              go_wp2
              go_ret
              exact ⟨by first | rfl | (simp [errW_none, errW_some] <;> rfl) | (simp [*, errW_none, errW_some] <;> rfl), by repeat (first | (with_reducible first | exact HB.out | apply below_alloc | apply pw_below_drewN | apply below_drew1 | refine below_set ?_ GE101.out | refine below_set ?_ GE102.out) | exact HB.out)⟩

end Go.Proofs.Ytgohmganimamcaa.PZ
