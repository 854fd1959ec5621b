/- Own and printed texts, laid together. -/
import Derived.Test.YtgdpabedlghiaaaSpGF
import Derived.Test.YtgdpabedlghiaaaSpGC
import Derived.Test.YtgdpabedlghiaaaSpGE
import Derived.Test.YtgdpabedlghiaaaSpGD
import Derived.Test.YtgdpabedlghiaaaSpGB
/- hanaperref20.Read walked: the next scope of the document's reader (printed by gen_scrread.py). -/
namespace Go.Proofs.Ytgdpabedlghiaaa.Scope
set_option linter.unusedVariables false
set_option linter.unusedSimpArgs false
open Go.RowKit Go.Proofs.Ytgdpabedlghiaaa.Base Go.Proofs.Ytgdpabedlghiaaa.TlvPlain Go.Proofs.Ytgdpabedlghiaaa.Lo Go.Proofs.Ytgdpabedlghiaaa.RdPlain Go.Proofs.Ytgdpabedlghiaaa.Aid Go.Proofs.Ytgdpabedlghiaaa.PZ Go.Proofs.YtgdpabedlghiaaaW.PrintWords Go.Proofs.YtgdpabedlghiaaaW.PrintLast Go.Proofs.YtgdpabedlghiaaaW.PrintMore
theorem leftR_set5 {w0 w W : World} {g q T : Nat} {s : Option (List Int)} {a b c d e : Value} (h : Rf.Left w0 w W g s) (hq : Blk W q T #[a, b, c, d, e]) (ha : NoU8 a) (hb : NoU8 b) (hc : NoU8 c) (hd : NoU8 d) (he : NoU8 e) (hne : g ≠ q) (h0 : w0.heap.size ≤ q) (hw : w.heap.size ≤ q) (a' b' c' d' e' : Value) :
  Rf.Left w0 w (((((W.setCell ⟨q, 0, none⟩ a').setCell ⟨q, 1, none⟩ b').setCell ⟨q, 2, none⟩ c').setCell ⟨q, 3, none⟩ d').setCell ⟨q, 4, none⟩ e') g s :=
 ⟨h.1.keep ((((((KeepBut.refl W q none).set_ 0 _).set_ 1 _).set_ 2 _).set_ 3 _).set_ 4 _) hne hq (no_u8_5 ha hb hc hd he), below_set (below_set (below_set (below_set (below_set h.2.1 h0) h0) h0) h0) h0, keep_far (keep_far (keep_far (keep_far (keep_far h.2.2 hw _) hw _) hw _) hw _) hw _⟩
theorem leftR_set1 {w0 w W : World} {g q T j : Nat} {s : Option (List Int)} {a b c d e : Value} (h : Rf.Left w0 w W g s) (hq : Blk W q T #[a, b, c, d, e]) (ha : NoU8 a) (hb : NoU8 b) (hc : NoU8 c) (hd : NoU8 d) (he : NoU8 e) (hne : g ≠ q) (h0 : w0.heap.size ≤ q) (hw : w.heap.size ≤ q) (v : Value) :
  Rf.Left w0 w (W.setCell ⟨q, j, none⟩ v) g s :=
 ⟨h.1.keep ((KeepBut.refl W q none).set_ j _) hne hq (no_u8_5 ha hb hc hd he), below_set h.2.1 h0, keep_far h.2.2 hw _⟩
theorem leftR_below {w0 w W W1 : World} {g : Nat} {s : Option (List Int)} (h : Rf.Left w0 w W g s) (hb : Below W.heap.size W W1) : Rf.Left w0 w W1 g s := ⟨h.1.below hb, below_step h.2.1 hb, h.2.2.trans (KeepBut.of_below hb g none) (.inl rfl)⟩
theorem leftR_grown {w0 w W W1 : World} {g : Nat} {s : Option (List Int)} {row : Option Nat} (h : Rf.Left w0 w W g s) (hb : Below w.heap.size W W1) (hg : W.grownBy W1 row) (hr : ∀ b, row = some b → g < b ∧ w0.heap.size ≤ b) (h0 : w0.heap.size ≤ w.heap.size) : Rf.Left w0 w W1 g s :=
 ⟨h.1.grown hg (fun b e => (hr b e).1), h.2.1.trans (hb.mono h0), Nat.le_trans h.2.2.1 hb.size, fun i hi h1 h2 => (hb.block i hi).trans (h.2.2.2 i hi h1 h2)⟩
/-- What a reading of a scope leaves: with a failed reader, some scope or other. -/
def ReadR (w0 w : World) (g : Nat) (r : Option (S40 × List Int)) (e : Ending) (w' : World) : Prop :=
 ∃ (y : S40) (v : Value) (st : Option (List Int)), e = .returned (.agg #[.int .i64 y.f0, .string y.f1, .int .i64 y.f2, .int .i64 y.f3, v]) ∧ Kd.R k40 40 w' w.heap.size (fun _ => True) v y.f4 ∧ Rf.Left w0 w w' g st ∧ (match r with | some (x, s) => y = x ∧ st = some s | none => st = none)
/-- What the loop over a scope's kids keeps. -/
def KidsR (w0 w W : World) (g gt : Nat) (c : Int) (nm : ByteArray) (fr tt : Int) (ks : List S40) (s : Option (List Int)) : Prop :=
 ∃ v, (∃ A n c, v = .slice A n c) ∧ Blk W gt 40 #[.int .i64 c, .string nm, .int .i64 fr, .int .i64 tt, v] ∧ Kd.R k40 40 W (gt + 1) (fun k => k ≠ g ∧ k ≠ gt) v ks ∧ Rf.Left w0 w W g s ∧ Blk W w.heap.size 40 #[.int .i64 0, .string ⟨#[]⟩, .int .i64 0, .int .i64 0, .slice none 0 0]
theorem readS_none (d : Nat) : readS d none = none := by
 cases d with
 | zero => rfl
 | succ d => rw [readS]; simp [takeO]
theorem readK_none (d N : Nat) (h : 0 < N) : readK (readS d) N none = none := by
 obtain ⟨n, rfl⟩ : ∃ n, N = n + 1 := ⟨N - 1, by omega⟩
 rw [readK, readS_none]
/-- What is left to be read, or that the reader has failed. -/
def InvR (d N : Nat) (s2 : Option (List Int)) (i : Nat) (ks : List S40) (s : Option (List Int)) : Prop :=
 match s with
 | none => ∀ l q, readK (readS d) N s2 ≠ some (l, some q)
 | some r => Rest d N s2 i ks (some r)
theorem inv_start (d N : Nat) (s2 : Option (List Int)) : InvR d N s2 0 [] s2 := by
 cases s2 with
 | none =>
  intro l q
  by_cases h : 0 < N
  ·rw [readK_none d N h]; simp
  ·rw [show N = 0 by omega, readK]; simp
 | some r =>
  show Rest d N (some r) 0 [] (some r)
  simp only [Rest, Nat.sub_zero, List.nil_append]
  cases readK (readS d) N (some r) <;> rfl
theorem inv_next {d N i : Nat} {s2 : Option (List Int)} {ks : List S40} {r : List Int} {y : S40} {st : Option (List Int)} (h : InvR d N s2 i ks (some r)) (hi : i < N) (hm : match readS d (some r) with | some (x, s) => y = x ∧ st = some s | none => st = none) : InvR d N s2 (i + 1) (ks ++ [y]) st := by
 have h' : Rest d N s2 i ks (some r) := h
 cases hr : readS d (some r) with
 | none =>
  rw [hr] at hm
  have hm' : st = none := hm
  subst hm'
  intro l q
  rw [rest_none h' hi hr]
  simp
 | some p =>
  obtain ⟨x, s⟩ := p
  rw [hr] at hm
  obtain ⟨rfl, rfl⟩ := (show y = x ∧ st = some s from hm)
  exact rest_some h' hi hr
theorem inv_end {d N i : Nat} {s2 s : Option (List Int)} {ks : List S40} (h : InvR d N s2 i ks s) (hi : N ≤ i ∨ s = none) (c : Int) (nv : ByteArray) (fr tt : Int) :
  match (match readK (readS d) N s2 with | some (ks, some s) => some ((⟨c, nv, fr, tt, ks⟩ : S40), s) | _ => none) with | some (x, s') => (⟨c, nv, fr, tt, ks⟩ : S40) = x ∧ s = some s' | none => s = none := by
 cases s with
 | none =>
  cases hk : readK (readS d) N s2 with
  | none => rfl
  | some p =>
   obtain ⟨l, q⟩ := p
   cases q with
   | none => rfl
   | some q => exact absurd hk (h l q)
 | some r =>
  have h' : Rest d N s2 i ks (some r) := h
  rw [rest_end h' (by rcases hi with hi | hi; exact hi; cases hi)]
  exact ⟨rfl, rfl⟩
theorem kidsR_more {w0 w W w1 : World} {g gt : Nat} {c : Int} {nm : ByteArray} {fr tt : Int} {ks : List S40} {x : S40} {s : Option (List Int)} {v1 : Value} {A3 : Option Addr} {n3 c3 : Nat} {ok : Nat → Prop}
  (hT : Blk W gt 40 #[.int .i64 c, .string nm, .int .i64 fr, .int .i64 tt, .slice A3 n3 c3]) (hR : Kd.R k40 40 W (gt + 1) ok (.slice A3 n3 c3) ks) (hL : Rf.Left w0 w W g s) (h0 : Blk W w.heap.size 40 #[.int .i64 0, .string ⟨#[]⟩, .int .i64 0, .int .i64 0, .slice none 0 0])
  (hR1 : Kd.R k40 40 w1 (gt + 1) (fun k => k ≠ g ∧ k ≠ gt) v1 (ks ++ [x])) (hb : Below (gt + 1) W w1) (hg : W.grownBy w1 (Value.slice A3 n3 c3).ownBlock) (hw : w0.heap.size ≤ w.heap.size ∧ g < w.heap.size) (hgt : w.heap.size < gt) :
  Blk w1 gt 40 #[.int .i64 c, .string nm, .int .i64 fr, .int .i64 tt, .slice A3 n3 c3] ∧ KidsR w0 w (w1.setCell ⟨gt, 4, none⟩ v1) g gt c nm fr tt (ks ++ [x]) s := by
 have hT1 := blk_step hT hb (by omega)
 have hL1 : Rf.Left w0 w w1 g s := leftR_grown hL (hb.mono (by omega)) hg (fun b e => by have := Kd.R_base hR b e; exact ⟨by omega, by omega⟩) hw.1
 refine ⟨hT1, v1, ?_, ?_, ?_, ?_, ?_⟩
 ·obtain ⟨A, c, e⟩ := Kd.R_slice hR1
  exact ⟨_, _, _, e⟩
 ·have h := blk_set hT1 4 v1
  simpa [Blk] using h
 ·exact Kd.R_far hR1 (fun _ hk => hk.2) _
 ·exact leftR_set1 hL1 hT1 (by simp [NoU8]) (by simp [NoU8]) (by simp [NoU8]) (by simp [NoU8]) (by simp [NoU8]) (by omega) (by omega) (by omega) _
 ·exact blk_far (blk_step h0 hb (by omega)) (by dsimp only; omega) _
theorem kidsR_out {w0 w W : World} {g gt : Nat} {ks : List S40} {s : Option (List Int)} {v : Value} {ok : Nat → Prop}
  (hR : Kd.R k40 40 W (gt + 1) ok v ks) (hL : Rf.Left w0 w W g s) (h0 : Blk W w.heap.size 40 #[.int .i64 0, .string ⟨#[]⟩, .int .i64 0, .int .i64 0, .slice none 0 0]) (hw : w0.heap.size ≤ w.heap.size ∧ g < w.heap.size) (hgt : w.heap.size < gt) (a b c d e : Value) :
  Kd.R k40 40 (((((W.setCell ⟨w.heap.size, 0, none⟩ a).setCell ⟨w.heap.size, 1, none⟩ b).setCell ⟨w.heap.size, 2, none⟩ c).setCell ⟨w.heap.size, 3, none⟩ d).setCell ⟨w.heap.size, 4, none⟩ e) w.heap.size (fun _ => True) v ks
  ∧ Rf.Left w0 w (((((W.setCell ⟨w.heap.size, 0, none⟩ a).setCell ⟨w.heap.size, 1, none⟩ b).setCell ⟨w.heap.size, 2, none⟩ c).setCell ⟨w.heap.size, 3, none⟩ d).setCell ⟨w.heap.size, 4, none⟩ e) g s := by
 have hk := (((((KeepBut.refl W w.heap.size none).set_ 0 a).set_ 1 b).set_ 2 c).set_ 3 d).set_ 4 e
 refine ⟨Kd.R_mono (Kd.R_lower (Kd.R_keep (Kd.R_bound hR) hk (fun k hk => ?_)) (by omega)) (fun _ _ => trivial), leftR_set5 hL h0 (by simp [NoU8]) (by simp [NoU8]) (by simp [NoU8]) (by simp [NoU8]) (by simp [NoU8]) (by omega) (by omega) (Nat.le_refl _) _ _ _ _ _⟩
 have := hk.2.1; omega

set_option maxHeartbeats 8000000 in
set_option maxRecDepth 100000 in
theorem rread_fail (d : Nat) (hd : d ≤ 8) (w0 w : World) (g : Nat) (st : Option (List Int)) (h : Rf.RfO w0 w g st) (hB : Below w0.heap.size w0 w) (hst : takeO st 1 = ([], none)) :
  Calls Try.prog 100 #[.pointer (some ⟨g, 0, none⟩), .int .i64 (d : Int)] w (ReadR w0 w g (readS d st)) := by
 have HE := Aside0.mk (show readS d st = none by
  cases d with
  | zero => rfl
  | succ d => rw [readS, hst])
 have HB := Aside0.mk (below_step hB (below_alloc (Below.refl w.heap.size w) (.cells #[.int .i64 0, .string ⟨#[]⟩, .int .i64 0, .int .i64 0, .slice none 0 0] 40)))
 have HS := Aside0.mk (h.below (below_alloc (Below.refl w.heap.size w) (.cells #[.int .i64 0, .string ⟨#[]⟩, .int .i64 0, .int .i64 0, .slice none 0 0] 40)))
 have H0 := Aside0.mk (show Blk (w.alloc (.cells #[.int .i64 0, .string ⟨#[]⟩, .int .i64 0, .int .i64 0, .slice none 0 0] 40)) w.heap.size 40 #[.int .i64 0, .string ⟨#[]⟩, .int .i64 0, .int .i64 0, .slice none 0 0] from blk_new _ _)
 have HG := Aside0.mk (show w0.heap.size ≤ w.heap.size ∧ g < w.heap.size from ⟨hB.size, h.blk.2.1⟩)
 have HKW := Aside0.mk (KeepBut.of_below (below_alloc (Below.refl w.heap.size w) (.cells #[.int .i64 0, .string ⟨#[]⟩, .int .i64 0, .int .i64 0, .slice none 0 0] 40)) g none)
 have hu40 := Try.underlying40
 have hu115 := Try.underlying115
 have H1 := Aside0.mk hst
 clear h hB hst hd
 go_enter Try.func100, Try.ntmps100
 go_wp2_with (fail)
 refine (Rf.takeO_ w0 _ g st 1 HS.out HB.out).mono ?_
 rintro e w1 ⟨v, rfl, ho, hl⟩
 rw [H1.out] at ho hl
 obtain ⟨A5, c5, rfl, _, _⟩ := Ob.reads ho
 have HL := Aside0.mk (show Rf.Left w0 w w1 g none from ⟨hl.1, hl.2.1, HKW.out.trans hl.2.2 (.inl rfl)⟩)
 have H01 := Aside0.mk (H0.out.keep hl.2.2 (by have := HG.out; omega))
 clear ho hl
 have hf1 := HL.out.1.fail.1
 have hf2 := HL.out.1.fail.2
 (try simp only [Option.isSome_some, Option.isSome_none, Bool.not_true, Bool.not_false] at hf1)
 have HLs := Aside0.mk (Rf.Left.set HL.out)
 have H0s := Aside0.mk (show Blk (w1.setCell ⟨g, 1, none⟩ (.bool true)) w.heap.size 40 #[.int .i64 0, .string ⟨#[]⟩, .int .i64 0, .int .i64 0, .slice none 0 0] from blk_far H01.out (by have := HG.out; dsimp only; omega) _)
 have z0 := (H0s.out).cell 0
 have z1 := (H0s.out).cell 1
 have z2 := (H0s.out).cell 2
 have z3 := (H0s.out).cell 3
 have z4 := (H0s.out).cell 4
 simp only [List.getElem?_toArray, List.getElem?_cons_zero, List.getElem?_cons_succ] at z0 z1 z2 z3 z4
 have y0 := blk_frozen (H0s.out) 0
 have y1 := blk_frozen (H0s.out) 1
 have y2 := blk_frozen (H0s.out) 2
 have y3 := blk_frozen (H0s.out) 3
 have y4 := blk_frozen (H0s.out) 4
 go_wp2_with (fail)
 refine bodyPost_ret (results_cell_row rfl _ _ w.heap.size 40 #[.int .i64 0, .string ⟨#[]⟩, .int .i64 0, .int .i64 0, .slice none 0 0] (0, 0) _ rfl (set5 H0s.out _ _ _ _ _) Try.underlying40 rfl (by kernel_rfl)) rfl ?_
 rw [HE.out]
 exact ⟨⟨0, ⟨#[]⟩, 0, 0, []⟩, _, none, rfl, Kd.R_nil _ _ _ _ _, leftR_set5 HLs.out H0s.out (by simp [NoU8]) (by simp [NoU8]) (by simp [NoU8]) (by simp [NoU8]) (by simp [NoU8]) (by have := HG.out; omega) HG.out.1 (Nat.le_refl _) _ _ _ _ _, rfl⟩

set_option maxHeartbeats 8000000 in
set_option maxRecDepth 100000 in
theorem rread_zero (w0 w : World) (g : Nat) (c : Int) (r : List Int) (h : Rf.RfO w0 w g (some (c :: r))) (hB : Below w0.heap.size w0 w) :
  Calls Try.prog 100 #[.pointer (some ⟨g, 0, none⟩), .int .i64 0] w (ReadR w0 w g (readS 0 (some (c :: r)))) := by
 have HE := Aside0.mk (show readS 0 (some (c :: r)) = none from by rw [readS])
 have HB := Aside0.mk (below_step hB (below_alloc (Below.refl w.heap.size w) (.cells #[.int .i64 0, .string ⟨#[]⟩, .int .i64 0, .int .i64 0, .slice none 0 0] 40)))
 have HS := Aside0.mk (h.below (below_alloc (Below.refl w.heap.size w) (.cells #[.int .i64 0, .string ⟨#[]⟩, .int .i64 0, .int .i64 0, .slice none 0 0] 40)))
 have H0 := Aside0.mk (show Blk (w.alloc (.cells #[.int .i64 0, .string ⟨#[]⟩, .int .i64 0, .int .i64 0, .slice none 0 0] 40)) w.heap.size 40 #[.int .i64 0, .string ⟨#[]⟩, .int .i64 0, .int .i64 0, .slice none 0 0] from blk_new _ _)
 have HG := Aside0.mk (show w0.heap.size ≤ w.heap.size ∧ g < w.heap.size from ⟨hB.size, h.blk.2.1⟩)
 have HKW := Aside0.mk (KeepBut.of_below (below_alloc (Below.refl w.heap.size w) (.cells #[.int .i64 0, .string ⟨#[]⟩, .int .i64 0, .int .i64 0, .slice none 0 0] 40)) g none)
 have hu40 := Try.underlying40
 have hu115 := Try.underlying115
 clear h hB
 go_enter Try.func100, Try.ntmps100
 go_wp2_with (fail)
 refine (Rf.takeO_ w0 _ g (some (c :: r)) 1 HS.out HB.out).mono ?_
 rintro e w1 ⟨v, rfl, ho, hl⟩
 rw [take1] at ho hl
 obtain ⟨A5, c5, rfl, hl5, hr5⟩ := Ob.reads ho
 obtain ⟨ad5, rfl, hc5⟩ := Rb.at0 hr5
 have HL := Aside0.mk (show Rf.Left w0 w w1 g (some r) from ⟨hl.1, hl.2.1, HKW.out.trans hl.2.2 (.inl rfl)⟩)
 have H01 := Aside0.mk (H0.out.keep hl.2.2 (by have := HG.out; omega))
 clear ho hl hl5 hr5
 have hf1 := HL.out.1.fail.1
 have hf2 := HL.out.1.fail.2
 (try simp only [Option.isSome_some, Option.isSome_none, Bool.not_true, Bool.not_false] at hf1)
 have HLs := Aside0.mk (Rf.Left.set HL.out)
 have H0s := Aside0.mk (show Blk (w1.setCell ⟨g, 1, none⟩ (.bool true)) w.heap.size 40 #[.int .i64 0, .string ⟨#[]⟩, .int .i64 0, .int .i64 0, .slice none 0 0] from blk_far H01.out (by have := HG.out; dsimp only; omega) _)
 have z0 := (H0s.out).cell 0
 have z1 := (H0s.out).cell 1
 have z2 := (H0s.out).cell 2
 have z3 := (H0s.out).cell 3
 have z4 := (H0s.out).cell 4
 simp only [List.getElem?_toArray, List.getElem?_cons_zero, List.getElem?_cons_succ] at z0 z1 z2 z3 z4
 have y0 := blk_frozen (H0s.out) 0
 have y1 := blk_frozen (H0s.out) 1
 have y2 := blk_frozen (H0s.out) 2
 have y3 := blk_frozen (H0s.out) 3
 have y4 := blk_frozen (H0s.out) 4
 go_wp2_with (fail)
 refine bodyPost_ret (results_cell_row rfl _ _ w.heap.size 40 #[.int .i64 0, .string ⟨#[]⟩, .int .i64 0, .int .i64 0, .slice none 0 0] (0, 0) _ rfl (set5 H0s.out _ _ _ _ _) Try.underlying40 rfl (by kernel_rfl)) rfl ?_
 rw [HE.out]
 exact ⟨⟨0, ⟨#[]⟩, 0, 0, []⟩, _, none, rfl, Kd.R_nil _ _ _ _ _, leftR_set5 HLs.out H0s.out (by simp [NoU8]) (by simp [NoU8]) (by simp [NoU8]) (by simp [NoU8]) (by simp [NoU8]) (by have := HG.out; omega) HG.out.1 (Nat.le_refl _) _ _ _ _ _, rfl⟩

set_option maxHeartbeats 8000000 in
set_option maxRecDepth 100000 in
theorem rread_N (d : Nat) (hd : d + 1 ≤ 8) (ih : ∀ w0 w g st, Rf.RfO w0 w g st → Below w0.heap.size w0 w → Calls Try.prog 100 #[.pointer (some ⟨g, 0, none⟩), .int .i64 (d : Int)] w (ReadR w0 w g (readS d st))) (w0 w : World) (g : Nat) (c : Int) (r : List Int) (h : Rf.RfO w0 w g (some (c :: r))) (hB : Below w0.heap.size w0 w) (hn : namedB c = true) :
  Calls Try.prog 100 #[.pointer (some ⟨g, 0, none⟩), .int .i64 ((d + 1 : Nat) : Int)] w (ReadR w0 w g (readS (d + 1) (some (c :: r)))) := by
 have hcs : c = 2 ∨ c = 3 ∨ c = 4 := by
  have h := hn
  unfold namedB at h
  simp only [Bool.or_eq_true, decide_eq_true_eq] at h
  omega
 have z5 : (c == 5) = false := by rw [beq_eq_false_iff_ne]; omega
 have z8 : (c == 8) = false := by rw [beq_eq_false_iff_ne]; omega
 have HMY := Aside0.mk (show decide (c = 6 ∨ c = 7) = false from decide_eq_false (by omega))
 have hlb : leastB c = 0 := by unfold leastB; rw [if_neg (by omega), if_neg (by omega), if_neg (by omega)]
 have HE := Aside0.mk (show readS (d + 1) (some (c :: r)) = match readK (readS d) 0 (textO (some r) 16).2 with
   | some (ks, some s) => some (⟨c, (strOfNums (textO (some r) 16).1), 0, 0, ks⟩, s)
   | _ => none by
  rw [readS, take1]
  simp only [List.getD_cons_zero]
  unfold headR
  rw [if_pos hn]
  rw [hlb]
  rfl)
 have HIH := Aside0.mk ih
 have HD8 := Aside0.mk hd
 have HU := Aside0.mk h.u8
 have hc0 := (show 0 ≤ c ∧ c ≤ 255 from h.u8.1.head).1
 have hc1 := (show 0 ≤ c ∧ c ≤ 255 from h.u8.1.head).2
 have z9 : decide (((d + 1 : Nat) : Int) < 1) = false := decide_eq_false (by omega)
 have HW1 := Aside0.mk (show wrap64 (((d + 1 : Nat) : Int) - 1) = (d : Int) from by rw [Aid.w64 (by omega) (by omega)]; omega)
 have HNM := Aside0.mk hn
 have HB := Aside0.mk (below_step hB (below_alloc (Below.refl w.heap.size w) (.cells #[.int .i64 0, .string ⟨#[]⟩, .int .i64 0, .int .i64 0, .slice none 0 0] 40)))
 have HS := Aside0.mk (h.below (below_alloc (Below.refl w.heap.size w) (.cells #[.int .i64 0, .string ⟨#[]⟩, .int .i64 0, .int .i64 0, .slice none 0 0] 40)))
 have H0 := Aside0.mk (show Blk (w.alloc (.cells #[.int .i64 0, .string ⟨#[]⟩, .int .i64 0, .int .i64 0, .slice none 0 0] 40)) w.heap.size 40 #[.int .i64 0, .string ⟨#[]⟩, .int .i64 0, .int .i64 0, .slice none 0 0] from blk_new _ _)
 have HG := Aside0.mk (show w0.heap.size ≤ w.heap.size ∧ g < w.heap.size from ⟨hB.size, h.blk.2.1⟩)
 have HKW := Aside0.mk (KeepBut.of_below (below_alloc (Below.refl w.heap.size w) (.cells #[.int .i64 0, .string ⟨#[]⟩, .int .i64 0, .int .i64 0, .slice none 0 0] 40)) g none)
 have hu40 := Try.underlying40
 have hu115 := Try.underlying115
 obtain ⟨D, hD⟩ : ∃ D : Int, ((d + 1 : Nat) : Int) = D := ⟨_, rfl⟩
 rw [hD] at z9 HW1 ⊢
 clear h hB hd hD ih hn hcs hlb
 go_enter Try.func100, Try.ntmps100
 go_wp2_with (fail)
 refine (Rf.takeO_ w0 _ g (some (c :: r)) 1 HS.out HB.out).mono ?_
 rintro e w1 ⟨v, rfl, ho, hl⟩
 rw [take1] at ho hl
 obtain ⟨A5, c5, rfl, hl5, hr5⟩ := Ob.reads ho
 obtain ⟨ad5, rfl, hc5⟩ := Rb.at0 hr5
 have HL := Aside0.mk (show Rf.Left w0 w w1 g (some r) from ⟨hl.1, hl.2.1, HKW.out.trans hl.2.2 (.inl rfl)⟩)
 have H01 := Aside0.mk (H0.out.keep hl.2.2 (by have := HG.out; omega))
 clear ho hl hl5 hr5
 have hf1 := HL.out.1.fail.1
 have hf2 := HL.out.1.fail.2
 (try simp only [Option.isSome_some, Option.isSome_none, Bool.not_true, Bool.not_false] at hf1)
 go_wp2_with (fail)
 refine (hanaperref20_named.calls c (namedB c) _ (named_v2 c)).mono ?_
 rintro e w3 ⟨rfl, hd⟩
 rw [HNM.out]
 have hb := drawn_b hd
 have HL_3 := Aside0.mk (leftR_below (leftR_below HL.out (below_alloc (Below.refl _ _) _)) hb)
 have H0_3 := Aside0.mk ((H01.out.alloc (.cells #[.int .i64 c, .string ⟨#[]⟩, .int .i64 0, .int .i64 0, .slice none 0 0] 40)).below hb)
 have HT_3 := Aside0.mk ((show Blk (w1.alloc (.cells #[.int .i64 c, .string ⟨#[]⟩, .int .i64 0, .int .i64 0, .slice none 0 0] 40)) w1.heap.size 40 #[.int .i64 c, .string ⟨#[]⟩, .int .i64 0, .int .i64 0, .slice none 0 0] from blk_new _ _).below hb)
 clear hb hd hf1 hf2
 have x0 := (HT_3.out).cell 0
 have x1 := (HT_3.out).cell 1
 have x2 := (HT_3.out).cell 2
 have x3 := (HT_3.out).cell 3
 have x4 := (HT_3.out).cell 4
 simp only [List.getElem?_toArray, List.getElem?_cons_zero, List.getElem?_cons_succ] at x0 x1 x2 x3 x4
 have f0 := blk_frozen (HT_3.out) 0
 have f1 := blk_frozen (HT_3.out) 1
 have f2 := blk_frozen (HT_3.out) 2
 have f3 := blk_frozen (HT_3.out) 3
 have f4 := blk_frozen (HT_3.out) 4
 go_wp2_with (fail)
 refine (Rf.textO_ w0 _ g (some r) 16 HL_3.out.1 HL_3.out.2.1 (by decide)).mono ?_
 rintro e w4 ⟨v, rfl, ho, hl⟩
 obtain ⟨A6, c6, rfl, hl6, hr6⟩ := Ob.reads ho
 have hcv := Kd.C_string (P := Try.prog) (c := c6) Try.underlying27 Try.underlying5 Try.underlying9 hr6
 have HL_4 := Aside0.mk (HL_3.out.trans hl)
 have H0_4 := Aside0.mk (H0_3.out.keep hl.2.2 (by have := HG.out; omega))
 have HT_4 := Aside0.mk (HT_3.out.keep hl.2.2 (by have := HG.out; have := HL.out.2.2.1; omega))
 clear ho hl hl6 hr6 x0 x1 x2 x3 x4 f0 f1 f2 f3 f4
 have x0 := (HT_4.out).cell 0
 have x1 := (HT_4.out).cell 1
 have x2 := (HT_4.out).cell 2
 have x3 := (HT_4.out).cell 3
 have x4 := (HT_4.out).cell 4
 simp only [List.getElem?_toArray, List.getElem?_cons_zero, List.getElem?_cons_succ] at x0 x1 x2 x3 x4
 have f0 := blk_frozen (HT_4.out) 0
 have f1 := blk_frozen (HT_4.out) 1
 have f2 := blk_frozen (HT_4.out) 2
 have f3 := blk_frozen (HT_4.out) 3
 have f4 := blk_frozen (HT_4.out) 4
 go_wp2_with (fail)
 have HT_5 := Aside0.mk (show Blk (w4.setCell ⟨w1.heap.size, 1, none⟩ (.string (strOfNums (textO (some r) 16).1))) w1.heap.size 40 #[.int .i64 c, .string (strOfNums (textO (some r) 16).1), .int .i64 0, .int .i64 0, .slice none 0 0] from by have h := blk_set HT_4.out 1 (.string (strOfNums (textO (some r) 16).1)); simpa [Blk] using h)
 have HL_5 := Aside0.mk (leftR_set1 (j := 1) HL_4.out HT_4.out (by simp [NoU8]) (by simp [NoU8]) (by simp [NoU8]) (by simp [NoU8]) (by simp [NoU8]) (by have := HG.out; have := HL.out.2.2.1; omega) (by have := HG.out; have := HL.out.2.2.1; omega) HL.out.2.2.1 (.string (strOfNums (textO (some r) 16).1)))
 have H0_5 := Aside0.mk (show Blk (w4.setCell ⟨w1.heap.size, 1, none⟩ (.string (strOfNums (textO (some r) 16).1))) w.heap.size 40 #[.int .i64 0, .string ⟨#[]⟩, .int .i64 0, .int .i64 0, .slice none 0 0] from blk_far H0_4.out (by have := HG.out; have := HL.out.2.2.1; have := H01.out.lt; dsimp only; omega) _)
 clear x0 x1 x2 x3 x4 f0 f1 f2 f3 f4
 refine (hanaperref20_many.calls c (decide (c = 6 ∨ c = 7)) _ (many_v c)).mono ?_
 rintro e w15 ⟨rfl, hd⟩
 rw [HMY.out]
 have hb := drawn_b hd
 have HL_15 := Aside0.mk (leftR_below HL_5.out hb)
 have H0_15 := Aside0.mk (H0_5.out.below hb)
 have HT_15 := Aside0.mk (HT_5.out.below hb)
 clear hb hd
 have x0 := (HT_15.out).cell 0
 have x1 := (HT_15.out).cell 1
 have x2 := (HT_15.out).cell 2
 have x3 := (HT_15.out).cell 3
 have x4 := (HT_15.out).cell 4
 simp only [List.getElem?_toArray, List.getElem?_cons_zero, List.getElem?_cons_succ] at x0 x1 x2 x3 x4
 have f0 := blk_frozen (HT_15.out) 0
 have f1 := blk_frozen (HT_15.out) 1
 have f2 := blk_frozen (HT_15.out) 2
 have f3 := blk_frozen (HT_15.out) 3
 have f4 := blk_frozen (HT_15.out) 4
 go_upto_region 16 with (fail)
 obtain ⟨W, hW⟩ : ∃ W, w15 = W := ⟨_, rfl⟩
 have HKD := Aside0.mk (show KidsR w0 w W g w1.heap.size c (strOfNums (textO (some r) 16).1) 0 0 [] (textO (some r) 16).2 by rw [← hW]; exact ⟨.slice none 0 0, ⟨_, _, _, rfl⟩, HT_15.out, Kd.R_nil _ _ _ _ _, HL_15.out, H0_15.out⟩)
 rw [hW]
 have HGT := Aside0.mk (show w.heap.size < w1.heap.size by have := HL.out.2.2.1; have := H01.out.lt; omega)
 obtain ⟨gt, hgt⟩ : ∃ k, w1.heap.size = k := ⟨_, rfl⟩
 rw [hgt] at HKD HGT ⊢
 have HNL := Aside0.mk (show 0 ≤ 24 by omega)
 have hnr : True := trivial
 have hN : True := trivial
 obtain ⟨nv, hnv⟩ : ∃ k, (strOfNums (textO (some r) 16).1) = k := ⟨_, rfl⟩
 obtain ⟨s2, hs2⟩ : ∃ k, (textO (some r) 16).2 = k := ⟨_, rfl⟩
 simp only [hnv, hs2] at HKD HE ⊢
 have hw9 := HW1.out
 have hw8 : IntKind.i64.wrap (D - 1) = (d : Int) := by have h := hw9; rw [IntKind.wrap_i64]; unfold wrap64 at h; omega
 clear hW hgt hnr hnv hs2 x0 x1 x2 x3 x4 f0 f1 f2 f3 f4
 go_wp2
 try rw [hN]
 clear hN
 go_loopg [8] 0 (fun gf s8 wx => ∃ (i : Nat) (ks : List S40) (s : Option (List Int)) (wy : World), wy = wx ∧ s8 = .int .i64 (i : Int) ∧ i + gf = 0 ∧ ks.length ≤ i ∧ KidsR w0 w wy g gt c nv 0 0 ks s ∧ InvR d 0 s2 i ks s)
 case atStart => exact ⟨0, [], s2, _, rfl, rfl, by omega, by simp, HKD.out, inv_start d 0 s2⟩
 case round =>
  obtain ⟨i, ks, s, wx, rfl, rfl, hi, hkl, ⟨v3, ⟨A3, n3, c3, rfl⟩, hT, hR, hL, h0⟩, hIv⟩ := hrel
  have HQ := Aside0.mk hi; have HLK := Aside0.mk hkl; have HT := Aside0.mk hT; have HR := Aside0.mk hR; have HLL := Aside0.mk hL; have H0 := Aside0.mk h0; have HIV := Aside0.mk hIv
  clear hi hkl hT hR hL h0 hIv HKD
  by_cases hlt : i < 0
  ·exact absurd hlt (Nat.not_lt_zero _)
  ·have hl1 : decide ((i : Int) < (0 : Int)) = false := decide_eq_false (by omega)
   cases s with
   | none =>
    have hf1 := HLL.out.1.fail.1
    have hf2 := HLL.out.1.fail.2
    (try simp only [Option.isSome_some, Option.isSome_none, Bool.not_true, Bool.not_false] at hf1)
    have x0 := (HT.out).cell 0
    have x1 := (HT.out).cell 1
    have x2 := (HT.out).cell 2
    have x3 := (HT.out).cell 3
    have x4 := (HT.out).cell 4
    simp only [List.getElem?_toArray, List.getElem?_cons_zero, List.getElem?_cons_succ] at x0 x1 x2 x3 x4
    have z0 := (H0.out).cell 0
    have z1 := (H0.out).cell 1
    have z2 := (H0.out).cell 2
    have z3 := (H0.out).cell 3
    have z4 := (H0.out).cell 4
    simp only [List.getElem?_toArray, List.getElem?_cons_zero, List.getElem?_cons_succ] at z0 z1 z2 z3 z4
    have y0 := blk_frozen (H0.out) 0
    have y1 := blk_frozen (H0.out) 1
    have y2 := blk_frozen (H0.out) 2
    have y3 := blk_frozen (H0.out) 3
    have y4 := blk_frozen (H0.out) 4
    go_wp2_with (fail)
    refine bodyPost_ret (results_cell_row rfl _ _ w.heap.size 40 #[.int .i64 c, .string nv, .int .i64 0, .int .i64 0, .slice A3 n3 c3] (0, 0) _ rfl (set5 H0.out _ _ _ _ _) Try.underlying40 rfl (by kernel_rfl)) rfl ?_
    have hko := kidsR_out HR.out HLL.out H0.out HG.out HGT.out (.int .i64 c) (.string nv) (.int .i64 0) (.int .i64 0) (.slice A3 n3 c3)
    refine ⟨⟨c, nv, 0, 0, ks⟩, .slice A3 n3 c3, none, rfl, hko.1, hko.2, ?_⟩
    rw [HE.out]
    exact inv_end HIV.out (.inr rfl) c nv 0 0
   | some r' =>
    have hf1 := HLL.out.1.fail.1
    have hf2 := HLL.out.1.fail.2
    (try simp only [Option.isSome_some, Option.isSome_none, Bool.not_true, Bool.not_false] at hf1)
    have x0 := (HT.out).cell 0
    have x1 := (HT.out).cell 1
    have x2 := (HT.out).cell 2
    have x3 := (HT.out).cell 3
    have x4 := (HT.out).cell 4
    simp only [List.getElem?_toArray, List.getElem?_cons_zero, List.getElem?_cons_succ] at x0 x1 x2 x3 x4
    have z0 := (H0.out).cell 0
    have z1 := (H0.out).cell 1
    have z2 := (H0.out).cell 2
    have z3 := (H0.out).cell 3
    have z4 := (H0.out).cell 4
    simp only [List.getElem?_toArray, List.getElem?_cons_zero, List.getElem?_cons_succ] at z0 z1 z2 z3 z4
    have y0 := blk_frozen (H0.out) 0
    have y1 := blk_frozen (H0.out) 1
    have y2 := blk_frozen (H0.out) 2
    have y3 := blk_frozen (H0.out) 3
    have y4 := blk_frozen (H0.out) 4
    go_wp2_with (fail)
    refine bodyPost_ret (results_cell_row rfl _ _ w.heap.size 40 #[.int .i64 c, .string nv, .int .i64 0, .int .i64 0, .slice A3 n3 c3] (0, 0) _ rfl (set5 H0.out _ _ _ _ _) Try.underlying40 rfl (by kernel_rfl)) rfl ?_
    have hko := kidsR_out HR.out HLL.out H0.out HG.out HGT.out (.int .i64 c) (.string nv) (.int .i64 0) (.int .i64 0) (.slice A3 n3 c3)
    refine ⟨⟨c, nv, 0, 0, ks⟩, .slice A3 n3 c3, (some r'), rfl, hko.1, hko.2, ?_⟩
    rw [HE.out]
    exact inv_end HIV.out (.inl (by omega)) c nv 0 0

set_option maxHeartbeats 8000000 in
set_option maxRecDepth 100000 in
theorem rread_T (d : Nat) (hd : d + 1 ≤ 8) (ih : ∀ w0 w g st, Rf.RfO w0 w g st → Below w0.heap.size w0 w → Calls Try.prog 100 #[.pointer (some ⟨g, 0, none⟩), .int .i64 (d : Int)] w (ReadR w0 w g (readS d st))) (w0 w : World) (g : Nat) (c : Int) (r : List Int) (h : Rf.RfO w0 w g (some (c :: r))) (hB : Below w0.heap.size w0 w) (hn : namedB c = false) (h5 : c = 5) :
  Calls Try.prog 100 #[.pointer (some ⟨g, 0, none⟩), .int .i64 ((d + 1 : Nat) : Int)] w (ReadR w0 w g (readS (d + 1) (some (c :: r)))) := by
 have z5 : (c == 5) = true := by simp [h5]
 have z8 : (c == 8) = false := by rw [beq_eq_false_iff_ne]; omega
 have HMY := Aside0.mk (show decide (c = 6 ∨ c = 7) = false from decide_eq_false (by omega))
 have hlb : leastB c = 0 := by unfold leastB; rw [if_neg (by omega), if_neg (by omega), if_neg (by omega)]
 have HE := Aside0.mk (show readS (d + 1) (some (c :: r)) = match readK (readS d) 0 (countO (countO (some r) 1099511627776).2 1099511627776).2 with
   | some (ks, some s) => some (⟨c, emptyS, (countO (some r) 1099511627776).1, (countO (countO (some r) 1099511627776).2 1099511627776).1, ks⟩, s)
   | _ => none by
  rw [readS, take1]
  simp only [List.getD_cons_zero]
  unfold headR
  rw [if_neg (by rw [hn]; decide), if_pos h5]
  rw [hlb]
  rfl)
 have HIH := Aside0.mk ih
 have HD8 := Aside0.mk hd
 have HU := Aside0.mk h.u8
 have hc0 := (show 0 ≤ c ∧ c ≤ 255 from h.u8.1.head).1
 have hc1 := (show 0 ≤ c ∧ c ≤ 255 from h.u8.1.head).2
 have z9 : decide (((d + 1 : Nat) : Int) < 1) = false := decide_eq_false (by omega)
 have HW1 := Aside0.mk (show wrap64 (((d + 1 : Nat) : Int) - 1) = (d : Int) from by rw [Aid.w64 (by omega) (by omega)]; omega)
 have HNM := Aside0.mk hn
 have HB := Aside0.mk (below_step hB (below_alloc (Below.refl w.heap.size w) (.cells #[.int .i64 0, .string ⟨#[]⟩, .int .i64 0, .int .i64 0, .slice none 0 0] 40)))
 have HS := Aside0.mk (h.below (below_alloc (Below.refl w.heap.size w) (.cells #[.int .i64 0, .string ⟨#[]⟩, .int .i64 0, .int .i64 0, .slice none 0 0] 40)))
 have H0 := Aside0.mk (show Blk (w.alloc (.cells #[.int .i64 0, .string ⟨#[]⟩, .int .i64 0, .int .i64 0, .slice none 0 0] 40)) w.heap.size 40 #[.int .i64 0, .string ⟨#[]⟩, .int .i64 0, .int .i64 0, .slice none 0 0] from blk_new _ _)
 have HG := Aside0.mk (show w0.heap.size ≤ w.heap.size ∧ g < w.heap.size from ⟨hB.size, h.blk.2.1⟩)
 have HKW := Aside0.mk (KeepBut.of_below (below_alloc (Below.refl w.heap.size w) (.cells #[.int .i64 0, .string ⟨#[]⟩, .int .i64 0, .int .i64 0, .slice none 0 0] 40)) g none)
 have hu40 := Try.underlying40
 have hu115 := Try.underlying115
 obtain ⟨D, hD⟩ : ∃ D : Int, ((d + 1 : Nat) : Int) = D := ⟨_, rfl⟩
 rw [hD] at z9 HW1 ⊢
 clear h hB hd hD ih hn h5 hlb
 go_enter Try.func100, Try.ntmps100
 go_wp2_with (fail)
 refine (Rf.takeO_ w0 _ g (some (c :: r)) 1 HS.out HB.out).mono ?_
 rintro e w1 ⟨v, rfl, ho, hl⟩
 rw [take1] at ho hl
 obtain ⟨A5, c5, rfl, hl5, hr5⟩ := Ob.reads ho
 obtain ⟨ad5, rfl, hc5⟩ := Rb.at0 hr5
 have HL := Aside0.mk (show Rf.Left w0 w w1 g (some r) from ⟨hl.1, hl.2.1, HKW.out.trans hl.2.2 (.inl rfl)⟩)
 have H01 := Aside0.mk (H0.out.keep hl.2.2 (by have := HG.out; omega))
 clear ho hl hl5 hr5
 have hf1 := HL.out.1.fail.1
 have hf2 := HL.out.1.fail.2
 (try simp only [Option.isSome_some, Option.isSome_none, Bool.not_true, Bool.not_false] at hf1)
 go_wp2_with (fail)
 refine (hanaperref20_named.calls c (namedB c) _ (named_v2 c)).mono ?_
 rintro e w3 ⟨rfl, hd⟩
 rw [HNM.out]
 have hb := drawn_b hd
 have HL_3 := Aside0.mk (leftR_below (leftR_below HL.out (below_alloc (Below.refl _ _) _)) hb)
 have H0_3 := Aside0.mk ((H01.out.alloc (.cells #[.int .i64 c, .string ⟨#[]⟩, .int .i64 0, .int .i64 0, .slice none 0 0] 40)).below hb)
 have HT_3 := Aside0.mk ((show Blk (w1.alloc (.cells #[.int .i64 c, .string ⟨#[]⟩, .int .i64 0, .int .i64 0, .slice none 0 0] 40)) w1.heap.size 40 #[.int .i64 c, .string ⟨#[]⟩, .int .i64 0, .int .i64 0, .slice none 0 0] from blk_new _ _).below hb)
 clear hb hd hf1 hf2
 have x0 := (HT_3.out).cell 0
 have x1 := (HT_3.out).cell 1
 have x2 := (HT_3.out).cell 2
 have x3 := (HT_3.out).cell 3
 have x4 := (HT_3.out).cell 4
 simp only [List.getElem?_toArray, List.getElem?_cons_zero, List.getElem?_cons_succ] at x0 x1 x2 x3 x4
 have f0 := blk_frozen (HT_3.out) 0
 have f1 := blk_frozen (HT_3.out) 1
 have f2 := blk_frozen (HT_3.out) 2
 have f3 := blk_frozen (HT_3.out) 3
 have f4 := blk_frozen (HT_3.out) 4
 go_wp2_with (fail)
 refine (Rf.countO_ w0 _ g (some r) 1099511627776 HL_3.out.1 HL_3.out.2.1 (by decide)).mono ?_
 rintro e w4 ⟨rfl, hl⟩
 have HL_4 := Aside0.mk (HL_3.out.trans hl)
 have H0_4 := Aside0.mk (H0_3.out.keep hl.2.2 (by have := HG.out; omega))
 have HT_4 := Aside0.mk (HT_3.out.keep hl.2.2 (by have := HG.out; have := HL.out.2.2.1; omega))
 clear hl x0 x1 x2 x3 x4 f0 f1 f2 f3 f4
 have x0 := (HT_4.out).cell 0
 have x1 := (HT_4.out).cell 1
 have x2 := (HT_4.out).cell 2
 have x3 := (HT_4.out).cell 3
 have x4 := (HT_4.out).cell 4
 simp only [List.getElem?_toArray, List.getElem?_cons_zero, List.getElem?_cons_succ] at x0 x1 x2 x3 x4
 have f0 := blk_frozen (HT_4.out) 0
 have f1 := blk_frozen (HT_4.out) 1
 have f2 := blk_frozen (HT_4.out) 2
 have f3 := blk_frozen (HT_4.out) 3
 have f4 := blk_frozen (HT_4.out) 4
 go_wp2_with (fail)
 have HT_5 := Aside0.mk (show Blk (w4.setCell ⟨w1.heap.size, 2, none⟩ (.int .i64 (countO (some r) 1099511627776).1)) w1.heap.size 40 #[.int .i64 c, .string ⟨#[]⟩, .int .i64 (countO (some r) 1099511627776).1, .int .i64 0, .slice none 0 0] from by have h := blk_set HT_4.out 2 (.int .i64 (countO (some r) 1099511627776).1); simpa [Blk] using h)
 have HL_5 := Aside0.mk (leftR_set1 (j := 2) HL_4.out HT_4.out (by simp [NoU8]) (by simp [NoU8]) (by simp [NoU8]) (by simp [NoU8]) (by simp [NoU8]) (by have := HG.out; have := HL.out.2.2.1; omega) (by have := HG.out; have := HL.out.2.2.1; omega) HL.out.2.2.1 (.int .i64 (countO (some r) 1099511627776).1))
 have H0_5 := Aside0.mk (show Blk (w4.setCell ⟨w1.heap.size, 2, none⟩ (.int .i64 (countO (some r) 1099511627776).1)) w.heap.size 40 #[.int .i64 0, .string ⟨#[]⟩, .int .i64 0, .int .i64 0, .slice none 0 0] from blk_far H0_4.out (by have := HG.out; have := HL.out.2.2.1; have := H01.out.lt; dsimp only; omega) _)
 clear x0 x1 x2 x3 x4 f0 f1 f2 f3 f4
 refine (Rf.countO_ w0 _ g (countO (some r) 1099511627776).2 1099511627776 HL_5.out.1 HL_5.out.2.1 (by decide)).mono ?_
 rintro e w6 ⟨rfl, hl⟩
 have HL_6 := Aside0.mk (HL_5.out.trans hl)
 have H0_6 := Aside0.mk (H0_5.out.keep hl.2.2 (by have := HG.out; omega))
 have HT_6 := Aside0.mk (HT_5.out.keep hl.2.2 (by have := HG.out; have := HL.out.2.2.1; omega))
 clear hl
 have x0 := (HT_6.out).cell 0
 have x1 := (HT_6.out).cell 1
 have x2 := (HT_6.out).cell 2
 have x3 := (HT_6.out).cell 3
 have x4 := (HT_6.out).cell 4
 simp only [List.getElem?_toArray, List.getElem?_cons_zero, List.getElem?_cons_succ] at x0 x1 x2 x3 x4
 have f0 := blk_frozen (HT_6.out) 0
 have f1 := blk_frozen (HT_6.out) 1
 have f2 := blk_frozen (HT_6.out) 2
 have f3 := blk_frozen (HT_6.out) 3
 have f4 := blk_frozen (HT_6.out) 4
 go_wp2_with (fail)
 have HT_7 := Aside0.mk (show Blk (w6.setCell ⟨w1.heap.size, 3, none⟩ (.int .i64 (countO (countO (some r) 1099511627776).2 1099511627776).1)) w1.heap.size 40 #[.int .i64 c, .string ⟨#[]⟩, .int .i64 (countO (some r) 1099511627776).1, .int .i64 (countO (countO (some r) 1099511627776).2 1099511627776).1, .slice none 0 0] from by have h := blk_set HT_6.out 3 (.int .i64 (countO (countO (some r) 1099511627776).2 1099511627776).1); simpa [Blk] using h)
 have HL_7 := Aside0.mk (leftR_set1 (j := 3) HL_6.out HT_6.out (by simp [NoU8]) (by simp [NoU8]) (by simp [NoU8]) (by simp [NoU8]) (by simp [NoU8]) (by have := HG.out; have := HL.out.2.2.1; omega) (by have := HG.out; have := HL.out.2.2.1; omega) HL.out.2.2.1 (.int .i64 (countO (countO (some r) 1099511627776).2 1099511627776).1))
 have H0_7 := Aside0.mk (show Blk (w6.setCell ⟨w1.heap.size, 3, none⟩ (.int .i64 (countO (countO (some r) 1099511627776).2 1099511627776).1)) w.heap.size 40 #[.int .i64 0, .string ⟨#[]⟩, .int .i64 0, .int .i64 0, .slice none 0 0] from blk_far H0_6.out (by have := HG.out; have := HL.out.2.2.1; have := H01.out.lt; dsimp only; omega) _)
 clear x0 x1 x2 x3 x4 f0 f1 f2 f3 f4
 refine (hanaperref20_many.calls c (decide (c = 6 ∨ c = 7)) _ (many_v c)).mono ?_
 rintro e w17 ⟨rfl, hd⟩
 rw [HMY.out]
 have hb := drawn_b hd
 have HL_17 := Aside0.mk (leftR_below HL_7.out hb)
 have H0_17 := Aside0.mk (H0_7.out.below hb)
 have HT_17 := Aside0.mk (HT_7.out.below hb)
 clear hb hd
 have x0 := (HT_17.out).cell 0
 have x1 := (HT_17.out).cell 1
 have x2 := (HT_17.out).cell 2
 have x3 := (HT_17.out).cell 3
 have x4 := (HT_17.out).cell 4
 simp only [List.getElem?_toArray, List.getElem?_cons_zero, List.getElem?_cons_succ] at x0 x1 x2 x3 x4
 have f0 := blk_frozen (HT_17.out) 0
 have f1 := blk_frozen (HT_17.out) 1
 have f2 := blk_frozen (HT_17.out) 2
 have f3 := blk_frozen (HT_17.out) 3
 have f4 := blk_frozen (HT_17.out) 4
 go_upto_region 16 with (fail)
 obtain ⟨W, hW⟩ : ∃ W, w17 = W := ⟨_, rfl⟩
 have HKD := Aside0.mk (show KidsR w0 w W g w1.heap.size c emptyS (countO (some r) 1099511627776).1 (countO (countO (some r) 1099511627776).2 1099511627776).1 [] (countO (countO (some r) 1099511627776).2 1099511627776).2 by rw [← hW]; exact ⟨.slice none 0 0, ⟨_, _, _, rfl⟩, HT_17.out, Kd.R_nil _ _ _ _ _, HL_17.out, H0_17.out⟩)
 rw [hW]
 have HGT := Aside0.mk (show w.heap.size < w1.heap.size by have := HL.out.2.2.1; have := H01.out.lt; omega)
 obtain ⟨gt, hgt⟩ : ∃ k, w1.heap.size = k := ⟨_, rfl⟩
 rw [hgt] at HKD HGT ⊢
 have HNL := Aside0.mk (show 0 ≤ 24 by omega)
 have hnr : True := trivial
 have hN : True := trivial
 obtain ⟨tv, htv⟩ : ∃ k, (countO (countO (some r) 1099511627776).2 1099511627776).1 = k := ⟨_, rfl⟩
 obtain ⟨s2, hs2⟩ : ∃ k, (countO (countO (some r) 1099511627776).2 1099511627776).2 = k := ⟨_, rfl⟩
 obtain ⟨fv, hfv⟩ : ∃ k, (countO (some r) 1099511627776).1 = k := ⟨_, rfl⟩
 simp only [htv, hs2, hfv] at HKD HE ⊢
 have hw9 := HW1.out
 have hw8 : IntKind.i64.wrap (D - 1) = (d : Int) := by have h := hw9; rw [IntKind.wrap_i64]; unfold wrap64 at h; omega
 clear hW hgt hnr htv hs2 hfv x0 x1 x2 x3 x4 f0 f1 f2 f3 f4
 go_wp2
 try rw [hN]
 clear hN
 go_loopg [8] 0 (fun gf s8 wx => ∃ (i : Nat) (ks : List S40) (s : Option (List Int)) (wy : World), wy = wx ∧ s8 = .int .i64 (i : Int) ∧ i + gf = 0 ∧ ks.length ≤ i ∧ KidsR w0 w wy g gt c emptyS fv tv ks s ∧ InvR d 0 s2 i ks s)
 case atStart => exact ⟨0, [], s2, _, rfl, rfl, by omega, by simp, HKD.out, inv_start d 0 s2⟩
 case round =>
  obtain ⟨i, ks, s, wx, rfl, rfl, hi, hkl, ⟨v3, ⟨A3, n3, c3, rfl⟩, hT, hR, hL, h0⟩, hIv⟩ := hrel
  have HQ := Aside0.mk hi; have HLK := Aside0.mk hkl; have HT := Aside0.mk hT; have HR := Aside0.mk hR; have HLL := Aside0.mk hL; have H0 := Aside0.mk h0; have HIV := Aside0.mk hIv
  clear hi hkl hT hR hL h0 hIv HKD
  by_cases hlt : i < 0
  ·exact absurd hlt (Nat.not_lt_zero _)
  ·have hl1 : decide ((i : Int) < (0 : Int)) = false := decide_eq_false (by omega)
   cases s with
   | none =>
    have hf1 := HLL.out.1.fail.1
    have hf2 := HLL.out.1.fail.2
    (try simp only [Option.isSome_some, Option.isSome_none, Bool.not_true, Bool.not_false] at hf1)
    have x0 := (HT.out).cell 0
    have x1 := (HT.out).cell 1
    have x2 := (HT.out).cell 2
    have x3 := (HT.out).cell 3
    have x4 := (HT.out).cell 4
    simp only [List.getElem?_toArray, List.getElem?_cons_zero, List.getElem?_cons_succ] at x0 x1 x2 x3 x4
    have z0 := (H0.out).cell 0
    have z1 := (H0.out).cell 1
    have z2 := (H0.out).cell 2
    have z3 := (H0.out).cell 3
    have z4 := (H0.out).cell 4
    simp only [List.getElem?_toArray, List.getElem?_cons_zero, List.getElem?_cons_succ] at z0 z1 z2 z3 z4
    have y0 := blk_frozen (H0.out) 0
    have y1 := blk_frozen (H0.out) 1
    have y2 := blk_frozen (H0.out) 2
    have y3 := blk_frozen (H0.out) 3
    have y4 := blk_frozen (H0.out) 4
    go_wp2_with (fail)
    refine bodyPost_ret (results_cell_row rfl _ _ w.heap.size 40 #[.int .i64 c, .string emptyS, .int .i64 fv, .int .i64 tv, .slice A3 n3 c3] (0, 0) _ rfl (set5 H0.out _ _ _ _ _) Try.underlying40 rfl (by kernel_rfl)) rfl ?_
    have hko := kidsR_out HR.out HLL.out H0.out HG.out HGT.out (.int .i64 c) (.string emptyS) (.int .i64 fv) (.int .i64 tv) (.slice A3 n3 c3)
    refine ⟨⟨c, emptyS, fv, tv, ks⟩, .slice A3 n3 c3, none, rfl, hko.1, hko.2, ?_⟩
    rw [HE.out]
    exact inv_end HIV.out (.inr rfl) c emptyS fv tv
   | some r' =>
    have hf1 := HLL.out.1.fail.1
    have hf2 := HLL.out.1.fail.2
    (try simp only [Option.isSome_some, Option.isSome_none, Bool.not_true, Bool.not_false] at hf1)
    have x0 := (HT.out).cell 0
    have x1 := (HT.out).cell 1
    have x2 := (HT.out).cell 2
    have x3 := (HT.out).cell 3
    have x4 := (HT.out).cell 4
    simp only [List.getElem?_toArray, List.getElem?_cons_zero, List.getElem?_cons_succ] at x0 x1 x2 x3 x4
    have z0 := (H0.out).cell 0
    have z1 := (H0.out).cell 1
    have z2 := (H0.out).cell 2
    have z3 := (H0.out).cell 3
    have z4 := (H0.out).cell 4
    simp only [List.getElem?_toArray, List.getElem?_cons_zero, List.getElem?_cons_succ] at z0 z1 z2 z3 z4
    have y0 := blk_frozen (H0.out) 0
    have y1 := blk_frozen (H0.out) 1
    have y2 := blk_frozen (H0.out) 2
    have y3 := blk_frozen (H0.out) 3
    have y4 := blk_frozen (H0.out) 4
    go_wp2_with (fail)
    refine bodyPost_ret (results_cell_row rfl _ _ w.heap.size 40 #[.int .i64 c, .string emptyS, .int .i64 fv, .int .i64 tv, .slice A3 n3 c3] (0, 0) _ rfl (set5 H0.out _ _ _ _ _) Try.underlying40 rfl (by kernel_rfl)) rfl ?_
    have hko := kidsR_out HR.out HLL.out H0.out HG.out HGT.out (.int .i64 c) (.string emptyS) (.int .i64 fv) (.int .i64 tv) (.slice A3 n3 c3)
    refine ⟨⟨c, emptyS, fv, tv, ks⟩, .slice A3 n3 c3, (some r'), rfl, hko.1, hko.2, ?_⟩
    rw [HE.out]
    exact inv_end HIV.out (.inl (by omega)) c emptyS fv tv

set_option maxHeartbeats 8000000 in
set_option maxRecDepth 100000 in
theorem rread_M (d : Nat) (hd : d + 1 ≤ 8) (ih : ∀ w0 w g st, Rf.RfO w0 w g st → Below w0.heap.size w0 w → Calls Try.prog 100 #[.pointer (some ⟨g, 0, none⟩), .int .i64 (d : Int)] w (ReadR w0 w g (readS d st))) (w0 w : World) (g : Nat) (c : Int) (r : List Int) (h : Rf.RfO w0 w g (some (c :: r))) (hB : Below w0.heap.size w0 w) (hn : namedB c = false) (h6 : c = 6 ∨ c = 7) :
  Calls Try.prog 100 #[.pointer (some ⟨g, 0, none⟩), .int .i64 ((d + 1 : Nat) : Int)] w (ReadR w0 w g (readS (d + 1) (some (c :: r)))) := by
 have z5 : (c == 5) = false := by rw [beq_eq_false_iff_ne]; omega
 have z8 : (c == 8) = false := by rw [beq_eq_false_iff_ne]; omega
 have HMY := Aside0.mk (show decide (c = 6 ∨ c = 7) = true from decide_eq_true h6)
 have HE := Aside0.mk (show readS (d + 1) (some (c :: r)) = match readK (readS d) (Int.toNat (countO (some r) 24).1) (countO (some r) 24).2 with
   | some (ks, some s) => some (⟨c, emptyS, 0, 0, ks⟩, s)
   | _ => none by
  rw [readS, take1]
  simp only [List.getD_cons_zero]
  unfold headR
  rw [if_neg (by rw [hn]; decide), if_neg (by omega), if_pos h6]
  rfl)
 have HIH := Aside0.mk ih
 have HD8 := Aside0.mk hd
 have HU := Aside0.mk h.u8
 have hc0 := (show 0 ≤ c ∧ c ≤ 255 from h.u8.1.head).1
 have hc1 := (show 0 ≤ c ∧ c ≤ 255 from h.u8.1.head).2
 have z9 : decide (((d + 1 : Nat) : Int) < 1) = false := decide_eq_false (by omega)
 have HW1 := Aside0.mk (show wrap64 (((d + 1 : Nat) : Int) - 1) = (d : Int) from by rw [Aid.w64 (by omega) (by omega)]; omega)
 have HNM := Aside0.mk hn
 have HB := Aside0.mk (below_step hB (below_alloc (Below.refl w.heap.size w) (.cells #[.int .i64 0, .string ⟨#[]⟩, .int .i64 0, .int .i64 0, .slice none 0 0] 40)))
 have HS := Aside0.mk (h.below (below_alloc (Below.refl w.heap.size w) (.cells #[.int .i64 0, .string ⟨#[]⟩, .int .i64 0, .int .i64 0, .slice none 0 0] 40)))
 have H0 := Aside0.mk (show Blk (w.alloc (.cells #[.int .i64 0, .string ⟨#[]⟩, .int .i64 0, .int .i64 0, .slice none 0 0] 40)) w.heap.size 40 #[.int .i64 0, .string ⟨#[]⟩, .int .i64 0, .int .i64 0, .slice none 0 0] from blk_new _ _)
 have HG := Aside0.mk (show w0.heap.size ≤ w.heap.size ∧ g < w.heap.size from ⟨hB.size, h.blk.2.1⟩)
 have HKW := Aside0.mk (KeepBut.of_below (below_alloc (Below.refl w.heap.size w) (.cells #[.int .i64 0, .string ⟨#[]⟩, .int .i64 0, .int .i64 0, .slice none 0 0] 40)) g none)
 have hu40 := Try.underlying40
 have hu115 := Try.underlying115
 obtain ⟨D, hD⟩ : ∃ D : Int, ((d + 1 : Nat) : Int) = D := ⟨_, rfl⟩
 rw [hD] at z9 HW1 ⊢
 clear h hB hd hD ih hn h6
 go_enter Try.func100, Try.ntmps100
 go_wp2_with (fail)
 refine (Rf.takeO_ w0 _ g (some (c :: r)) 1 HS.out HB.out).mono ?_
 rintro e w1 ⟨v, rfl, ho, hl⟩
 rw [take1] at ho hl
 obtain ⟨A5, c5, rfl, hl5, hr5⟩ := Ob.reads ho
 obtain ⟨ad5, rfl, hc5⟩ := Rb.at0 hr5
 have HL := Aside0.mk (show Rf.Left w0 w w1 g (some r) from ⟨hl.1, hl.2.1, HKW.out.trans hl.2.2 (.inl rfl)⟩)
 have H01 := Aside0.mk (H0.out.keep hl.2.2 (by have := HG.out; omega))
 clear ho hl hl5 hr5
 have hf1 := HL.out.1.fail.1
 have hf2 := HL.out.1.fail.2
 (try simp only [Option.isSome_some, Option.isSome_none, Bool.not_true, Bool.not_false] at hf1)
 go_wp2_with (fail)
 refine (hanaperref20_named.calls c (namedB c) _ (named_v2 c)).mono ?_
 rintro e w3 ⟨rfl, hd⟩
 rw [HNM.out]
 have hb := drawn_b hd
 have HL_3 := Aside0.mk (leftR_below (leftR_below HL.out (below_alloc (Below.refl _ _) _)) hb)
 have H0_3 := Aside0.mk ((H01.out.alloc (.cells #[.int .i64 c, .string ⟨#[]⟩, .int .i64 0, .int .i64 0, .slice none 0 0] 40)).below hb)
 have HT_3 := Aside0.mk ((show Blk (w1.alloc (.cells #[.int .i64 c, .string ⟨#[]⟩, .int .i64 0, .int .i64 0, .slice none 0 0] 40)) w1.heap.size 40 #[.int .i64 c, .string ⟨#[]⟩, .int .i64 0, .int .i64 0, .slice none 0 0] from blk_new _ _).below hb)
 clear hb hd hf1 hf2
 have x0 := (HT_3.out).cell 0
 have x1 := (HT_3.out).cell 1
 have x2 := (HT_3.out).cell 2
 have x3 := (HT_3.out).cell 3
 have x4 := (HT_3.out).cell 4
 simp only [List.getElem?_toArray, List.getElem?_cons_zero, List.getElem?_cons_succ] at x0 x1 x2 x3 x4
 have f0 := blk_frozen (HT_3.out) 0
 have f1 := blk_frozen (HT_3.out) 1
 have f2 := blk_frozen (HT_3.out) 2
 have f3 := blk_frozen (HT_3.out) 3
 have f4 := blk_frozen (HT_3.out) 4
 go_wp2_with (fail)
 refine (hanaperref20_many.calls c (decide (c = 6 ∨ c = 7)) _ (many_v c)).mono ?_
 rintro e w13 ⟨rfl, hd⟩
 rw [HMY.out]
 have hb := drawn_b hd
 have HL_13 := Aside0.mk (leftR_below HL_3.out hb)
 have H0_13 := Aside0.mk (H0_3.out.below hb)
 have HT_13 := Aside0.mk (HT_3.out.below hb)
 clear hb hd x0 x1 x2 x3 x4 f0 f1 f2 f3 f4
 have x0 := (HT_13.out).cell 0
 have x1 := (HT_13.out).cell 1
 have x2 := (HT_13.out).cell 2
 have x3 := (HT_13.out).cell 3
 have x4 := (HT_13.out).cell 4
 simp only [List.getElem?_toArray, List.getElem?_cons_zero, List.getElem?_cons_succ] at x0 x1 x2 x3 x4
 have f0 := blk_frozen (HT_13.out) 0
 have f1 := blk_frozen (HT_13.out) 1
 have f2 := blk_frozen (HT_13.out) 2
 have f3 := blk_frozen (HT_13.out) 3
 have f4 := blk_frozen (HT_13.out) 4
 go_wp2_with (fail)
 refine (Rf.countO_ w0 _ g (some r) 24 HL_13.out.1 HL_13.out.2.1 (by decide)).mono ?_
 rintro e w30 ⟨rfl, hl⟩
 have HL_30 := Aside0.mk (HL_13.out.trans hl)
 have H0_30 := Aside0.mk (H0_13.out.keep hl.2.2 (by have := HG.out; omega))
 have HT_30 := Aside0.mk (HT_13.out.keep hl.2.2 (by have := HG.out; have := HL.out.2.2.1; omega))
 clear hl x0 x1 x2 x3 x4 f0 f1 f2 f3 f4
 have x0 := (HT_30.out).cell 0
 have x1 := (HT_30.out).cell 1
 have x2 := (HT_30.out).cell 2
 have x3 := (HT_30.out).cell 3
 have x4 := (HT_30.out).cell 4
 simp only [List.getElem?_toArray, List.getElem?_cons_zero, List.getElem?_cons_succ] at x0 x1 x2 x3 x4
 have f0 := blk_frozen (HT_30.out) 0
 have f1 := blk_frozen (HT_30.out) 1
 have f2 := blk_frozen (HT_30.out) 2
 have f3 := blk_frozen (HT_30.out) 3
 have f4 := blk_frozen (HT_30.out) 4
 go_upto_region 16 with (fail)
 obtain ⟨W, hW⟩ : ∃ W, w30 = W := ⟨_, rfl⟩
 have HKD := Aside0.mk (show KidsR w0 w W g w1.heap.size c emptyS 0 0 [] (countO (some r) 24).2 by rw [← hW]; exact ⟨.slice none 0 0, ⟨_, _, _, rfl⟩, HT_30.out, Kd.R_nil _ _ _ _ _, HL_30.out, H0_30.out⟩)
 rw [hW]
 have HGT := Aside0.mk (show w.heap.size < w1.heap.size by have := HL.out.2.2.1; have := H01.out.lt; omega)
 obtain ⟨gt, hgt⟩ : ∃ k, w1.heap.size = k := ⟨_, rfl⟩
 rw [hgt] at HKD HGT ⊢
 have hnr : 0 ≤ (countO (some r) 24).1 ∧ (countO (some r) 24).1 ≤ 24 := cnt_rng _ (by decide) (fun bs e => by cases e; exact HU.out.1.tail)
 obtain ⟨N, hN⟩ : ∃ N : Nat, (countO (some r) 24).1 = (N : Int) := ⟨Int.toNat (countO (some r) 24).1, by omega⟩
 have HNL := Aside0.mk (show N ≤ 24 by omega)
 rw [hN, Int.toNat_natCast] at HE
 rw [hN]
 obtain ⟨s2, hs2⟩ : ∃ k, (countO (some r) 24).2 = k := ⟨_, rfl⟩
 simp only [hs2] at HKD HE ⊢
 have hw9 := HW1.out
 have hw8 : IntKind.i64.wrap (D - 1) = (d : Int) := by have h := hw9; rw [IntKind.wrap_i64]; unfold wrap64 at h; omega
 clear hW hgt hnr hs2 x0 x1 x2 x3 x4 f0 f1 f2 f3 f4
 go_wp2
 try rw [hN]
 clear hN
 go_loopg [8] N (fun gf s8 wx => ∃ (i : Nat) (ks : List S40) (s : Option (List Int)) (wy : World), wy = wx ∧ s8 = .int .i64 (i : Int) ∧ i + gf = N ∧ ks.length ≤ i ∧ KidsR w0 w wy g gt c emptyS 0 0 ks s ∧ InvR d N s2 i ks s)
 case atStart => exact ⟨0, [], s2, _, rfl, rfl, by omega, by simp, HKD.out, inv_start d N s2⟩
 case round =>
  obtain ⟨i, ks, s, wx, rfl, rfl, hi, hkl, ⟨v3, ⟨A3, n3, c3, rfl⟩, hT, hR, hL, h0⟩, hIv⟩ := hrel
  have HQ := Aside0.mk hi; have HLK := Aside0.mk hkl; have HT := Aside0.mk hT; have HR := Aside0.mk hR; have HLL := Aside0.mk hL; have H0 := Aside0.mk h0; have HIV := Aside0.mk hIv
  clear hi hkl hT hR hL h0 hIv HKD
  by_cases hlt : i < N
  ·have hl1 : decide ((i : Int) < (N : Int)) = true := decide_eq_true (by omega)
   cases s with
   | none =>
    have hf1 := HLL.out.1.fail.1
    have hf2 := HLL.out.1.fail.2
    (try simp only [Option.isSome_some, Option.isSome_none, Bool.not_true, Bool.not_false] at hf1)
    have x0 := (HT.out).cell 0
    have x1 := (HT.out).cell 1
    have x2 := (HT.out).cell 2
    have x3 := (HT.out).cell 3
    have x4 := (HT.out).cell 4
    simp only [List.getElem?_toArray, List.getElem?_cons_zero, List.getElem?_cons_succ] at x0 x1 x2 x3 x4
    have z0 := (H0.out).cell 0
    have z1 := (H0.out).cell 1
    have z2 := (H0.out).cell 2
    have z3 := (H0.out).cell 3
    have z4 := (H0.out).cell 4
    simp only [List.getElem?_toArray, List.getElem?_cons_zero, List.getElem?_cons_succ] at z0 z1 z2 z3 z4
    have y0 := blk_frozen (H0.out) 0
    have y1 := blk_frozen (H0.out) 1
    have y2 := blk_frozen (H0.out) 2
    have y3 := blk_frozen (H0.out) 3
    have y4 := blk_frozen (H0.out) 4
    go_wp2_with (fail)
    refine bodyPost_ret (results_cell_row rfl _ _ w.heap.size 40 #[.int .i64 c, .string emptyS, .int .i64 0, .int .i64 0, .slice A3 n3 c3] (0, 0) _ rfl (set5 H0.out _ _ _ _ _) Try.underlying40 rfl (by kernel_rfl)) rfl ?_
    have hko := kidsR_out HR.out HLL.out H0.out HG.out HGT.out (.int .i64 c) (.string emptyS) (.int .i64 0) (.int .i64 0) (.slice A3 n3 c3)
    refine ⟨⟨c, emptyS, 0, 0, ks⟩, .slice A3 n3 c3, none, rfl, hko.1, hko.2, ?_⟩
    rw [HE.out]
    exact inv_end HIV.out (.inr rfl) c emptyS 0 0
   | some r' =>
    have hw1 : wrap64 ((i : Int) + 1) = ((i + 1 : Nat) : Int) := by have := HNL.out; rw [Aid.w64 (by omega) (by omega)]; omega
    have HLN := Aside0.mk (show (ks.length + 1) * 64 ≤ 140737488355328 by have := HLK.out; have := HQ.out; have := HNL.out; omega)
    have hf1 := HLL.out.1.fail.1
    have hf2 := HLL.out.1.fail.2
    (try simp only [Option.isSome_some, Option.isSome_none, Bool.not_true, Bool.not_false] at hf1)
    have x0 := (HT.out).cell 0
    have x1 := (HT.out).cell 1
    have x2 := (HT.out).cell 2
    have x3 := (HT.out).cell 3
    have x4 := (HT.out).cell 4
    simp only [List.getElem?_toArray, List.getElem?_cons_zero, List.getElem?_cons_succ] at x0 x1 x2 x3 x4
    have X0 := (HT.out.below (below_drew1 (Below.refl _ _))).cell 0
    have X1 := (HT.out.below (below_drew1 (Below.refl _ _))).cell 1
    have X2 := (HT.out.below (below_drew1 (Below.refl _ _))).cell 2
    have X3 := (HT.out.below (below_drew1 (Below.refl _ _))).cell 3
    have X4 := (HT.out.below (below_drew1 (Below.refl _ _))).cell 4
    simp only [List.getElem?_toArray, List.getElem?_cons_zero, List.getElem?_cons_succ] at X0 X1 X2 X3 X4
    have v0 := blk_frozen (HT.out) 0
    have v1 := blk_frozen (HT.out) 1
    have v2 := blk_frozen (HT.out) 2
    have v3 := blk_frozen (HT.out) 3
    have v4 := blk_frozen (HT.out) 4
    go_upto_region 19 with (fail)
    have HCD := Aside0.mk (HIH.out w0 wx.drew g (some r') (HLL.out.1.below (below_drew1 (Below.refl _ _))) (below_drew1 HLL.out.2.1))
    go_region_law (first
     | (go_simp; go_at_call 100; refine HCD.out.mono ?_; rintro e w7 ⟨y, q3, st, rfl, ho3, hl, hm⟩; obtain ⟨B3, e3, rfl⟩ := Kd.R_slice ho3; have HKW6 := Aside0.mk ((KeepBut.of_below (below_drew1 (Below.refl wx.heap.size wx)) g none).trans hl.2.2 (.inl rfl)); have HL7 := Aside0.mk (show Rf.Left w0 w w7 g st from ⟨hl.1, hl.2.1, HLL.out.2.2.trans HKW6.out (.inl rfl)⟩); have HT7 := Aside0.mk (HT.out.keep HKW6.out (by have := HG.out; have := HGT.out; omega)); have H07 := Aside0.mk (H0.out.keep HKW6.out (by have := HG.out; omega)); have HR7 := Aside0.mk (Kd.R_keep HR.out HKW6.out (fun _ h => h.1)); have HM := Aside0.mk (k40_mkM _ (gt + 1) (fun k => wx.heap.size ≤ k) y (Kd.R_mono (Kd.R_lower (Kd.R_bound ho3) (show gt + 1 ≤ wx.drew.heap.size from HT.out.lt)) (fun _ h => h.2.1))); have HOK := Aside0.mk (show ∀ k, wx.heap.size ≤ k → (k ≠ g ∧ k ≠ gt) ∧ some k ≠ (Value.slice A3 n3 c3).ownBlock from fun k hk => ⟨⟨by have := HG.out; have := HT.out.lt; have := HGT.out; omega, by have := HT.out.lt; omega⟩, fun e => by have := Kd.R_lt HR.out k e.symm; omega⟩); have HSZ := Aside0.mk (show gt + 1 ≤ w7.heap.size from HT7.out.lt); have HFR := Aside0.mk (show ∀ k, w7.heap.size ≤ k → k ≠ g ∧ k ≠ gt from fun k hk => ⟨by have := HG.out; have := HGT.out; have := HSZ.out; omega, by have := HSZ.out; omega⟩); have HIN := Aside0.mk (inv_next HIV.out hlt hm); have t5_ := fun o => (HT7.out.alloc o).cell 4; have t3_ := HT7.out.cell 4; have f3_ := blk_frozen HT7.out 4; simp only [List.getElem?_toArray, List.getElem?_cons_zero, List.getElem?_cons_succ] at t3_ t5_; clear ho3 hl hm)
     | (go_must (refine Kd.R_append_step k40 (gt + 1) rfl (.tmp 65) (.tmp 70) 38 40 (.agg #[.int .i64 0, .string ⟨#[]⟩, .int .i64 0, .int .i64 0, .slice none 0 0]) 64 rfl Try.underlying38 info_s rfl (by decide) (by decide) _ ks y _ (fun k => k ≠ g ∧ k ≠ gt) (fun k => wx.heap.size ≤ k) rfl (by first | rfl | (rw [size_alloc_]; rfl)) HM.out HOK.out HFR.out HR7.out (Below.refl _ _) HSZ.out HLN.out ?_); intro v1 w8 hr1 hb1 hg1 _; obtain ⟨A9, c9, rfl⟩ := Kd.R_slice hr1; have HMORE := Aside0.mk (kidsR_more HT7.out HR7.out HL7.out H07.out hr1 hb1 hg1 HG.out HGT.out); have t3__ := blk_frozen HMORE.out.1 4; have t4__ := HMORE.out.1.cell 4; simp only [List.getElem?_toArray, List.getElem?_cons_zero, List.getElem?_cons_succ] at t4__; clear hr1 hb1 hg1))
    all_goals
     go_wp2_with (fail)
     go_roundg (N - (i + 1))
     case measure => have := HQ.out; omega
     case rel => exact ⟨i + 1, ks ++ [y], st, _, rfl, by first | rfl | rw [hw1], by omega, by have := HLK.out; rw [List.length_append, List.length_singleton]; omega, by have hm := HMORE.out.2; rw [List.length_append] at hm; exact hm, HIN.out⟩
  ·have hl1 : decide ((i : Int) < (N : Int)) = false := decide_eq_false (by omega)
   cases s with
   | none =>
    have hf1 := HLL.out.1.fail.1
    have hf2 := HLL.out.1.fail.2
    (try simp only [Option.isSome_some, Option.isSome_none, Bool.not_true, Bool.not_false] at hf1)
    have x0 := (HT.out).cell 0
    have x1 := (HT.out).cell 1
    have x2 := (HT.out).cell 2
    have x3 := (HT.out).cell 3
    have x4 := (HT.out).cell 4
    simp only [List.getElem?_toArray, List.getElem?_cons_zero, List.getElem?_cons_succ] at x0 x1 x2 x3 x4
    have z0 := (H0.out).cell 0
    have z1 := (H0.out).cell 1
    have z2 := (H0.out).cell 2
    have z3 := (H0.out).cell 3
    have z4 := (H0.out).cell 4
    simp only [List.getElem?_toArray, List.getElem?_cons_zero, List.getElem?_cons_succ] at z0 z1 z2 z3 z4
    have y0 := blk_frozen (H0.out) 0
    have y1 := blk_frozen (H0.out) 1
    have y2 := blk_frozen (H0.out) 2
    have y3 := blk_frozen (H0.out) 3
    have y4 := blk_frozen (H0.out) 4
    go_wp2_with (fail)
    refine bodyPost_ret (results_cell_row rfl _ _ w.heap.size 40 #[.int .i64 c, .string emptyS, .int .i64 0, .int .i64 0, .slice A3 n3 c3] (0, 0) _ rfl (set5 H0.out _ _ _ _ _) Try.underlying40 rfl (by kernel_rfl)) rfl ?_
    have hko := kidsR_out HR.out HLL.out H0.out HG.out HGT.out (.int .i64 c) (.string emptyS) (.int .i64 0) (.int .i64 0) (.slice A3 n3 c3)
    refine ⟨⟨c, emptyS, 0, 0, ks⟩, .slice A3 n3 c3, none, rfl, hko.1, hko.2, ?_⟩
    rw [HE.out]
    exact inv_end HIV.out (.inr rfl) c emptyS 0 0
   | some r' =>
    have hf1 := HLL.out.1.fail.1
    have hf2 := HLL.out.1.fail.2
    (try simp only [Option.isSome_some, Option.isSome_none, Bool.not_true, Bool.not_false] at hf1)
    have x0 := (HT.out).cell 0
    have x1 := (HT.out).cell 1
    have x2 := (HT.out).cell 2
    have x3 := (HT.out).cell 3
    have x4 := (HT.out).cell 4
    simp only [List.getElem?_toArray, List.getElem?_cons_zero, List.getElem?_cons_succ] at x0 x1 x2 x3 x4
    have z0 := (H0.out).cell 0
    have z1 := (H0.out).cell 1
    have z2 := (H0.out).cell 2
    have z3 := (H0.out).cell 3
    have z4 := (H0.out).cell 4
    simp only [List.getElem?_toArray, List.getElem?_cons_zero, List.getElem?_cons_succ] at z0 z1 z2 z3 z4
    have y0 := blk_frozen (H0.out) 0
    have y1 := blk_frozen (H0.out) 1
    have y2 := blk_frozen (H0.out) 2
    have y3 := blk_frozen (H0.out) 3
    have y4 := blk_frozen (H0.out) 4
    go_wp2_with (fail)
    refine bodyPost_ret (results_cell_row rfl _ _ w.heap.size 40 #[.int .i64 c, .string emptyS, .int .i64 0, .int .i64 0, .slice A3 n3 c3] (0, 0) _ rfl (set5 H0.out _ _ _ _ _) Try.underlying40 rfl (by kernel_rfl)) rfl ?_
    have hko := kidsR_out HR.out HLL.out H0.out HG.out HGT.out (.int .i64 c) (.string emptyS) (.int .i64 0) (.int .i64 0) (.slice A3 n3 c3)
    refine ⟨⟨c, emptyS, 0, 0, ks⟩, .slice A3 n3 c3, (some r'), rfl, hko.1, hko.2, ?_⟩
    rw [HE.out]
    exact inv_end HIV.out (.inl (by omega)) c emptyS 0 0

set_option maxHeartbeats 8000000 in
set_option maxRecDepth 100000 in
theorem rread_E (d : Nat) (hd : d + 1 ≤ 8) (ih : ∀ w0 w g st, Rf.RfO w0 w g st → Below w0.heap.size w0 w → Calls Try.prog 100 #[.pointer (some ⟨g, 0, none⟩), .int .i64 (d : Int)] w (ReadR w0 w g (readS d st))) (w0 w : World) (g : Nat) (c : Int) (r : List Int) (h : Rf.RfO w0 w g (some (c :: r))) (hB : Below w0.heap.size w0 w) (hn : namedB c = false) (h8 : c = 8) :
  Calls Try.prog 100 #[.pointer (some ⟨g, 0, none⟩), .int .i64 ((d + 1 : Nat) : Int)] w (ReadR w0 w g (readS (d + 1) (some (c :: r)))) := by
 have z5 : (c == 5) = false := by rw [beq_eq_false_iff_ne]; omega
 have z8 : (c == 8) = true := by simp [h8]
 have HMY := Aside0.mk (show decide (c = 6 ∨ c = 7) = false from decide_eq_false (by omega))
 have hlb : leastB c = 1 := by unfold leastB; rw [if_pos h8]
 have HE := Aside0.mk (show readS (d + 1) (some (c :: r)) = match readK (readS d) 1 (some r) with
   | some (ks, some s) => some (⟨c, emptyS, 0, 0, ks⟩, s)
   | _ => none by
  rw [readS, take1]
  simp only [List.getD_cons_zero]
  unfold headR
  rw [if_neg (by rw [hn]; decide), if_neg (by omega), if_neg (by omega)]
  rw [hlb]
  rfl)
 have HIH := Aside0.mk ih
 have HD8 := Aside0.mk hd
 have HU := Aside0.mk h.u8
 have hc0 := (show 0 ≤ c ∧ c ≤ 255 from h.u8.1.head).1
 have hc1 := (show 0 ≤ c ∧ c ≤ 255 from h.u8.1.head).2
 have z9 : decide (((d + 1 : Nat) : Int) < 1) = false := decide_eq_false (by omega)
 have HW1 := Aside0.mk (show wrap64 (((d + 1 : Nat) : Int) - 1) = (d : Int) from by rw [Aid.w64 (by omega) (by omega)]; omega)
 have HNM := Aside0.mk hn
 have HB := Aside0.mk (below_step hB (below_alloc (Below.refl w.heap.size w) (.cells #[.int .i64 0, .string ⟨#[]⟩, .int .i64 0, .int .i64 0, .slice none 0 0] 40)))
 have HS := Aside0.mk (h.below (below_alloc (Below.refl w.heap.size w) (.cells #[.int .i64 0, .string ⟨#[]⟩, .int .i64 0, .int .i64 0, .slice none 0 0] 40)))
 have H0 := Aside0.mk (show Blk (w.alloc (.cells #[.int .i64 0, .string ⟨#[]⟩, .int .i64 0, .int .i64 0, .slice none 0 0] 40)) w.heap.size 40 #[.int .i64 0, .string ⟨#[]⟩, .int .i64 0, .int .i64 0, .slice none 0 0] from blk_new _ _)
 have HG := Aside0.mk (show w0.heap.size ≤ w.heap.size ∧ g < w.heap.size from ⟨hB.size, h.blk.2.1⟩)
 have HKW := Aside0.mk (KeepBut.of_below (below_alloc (Below.refl w.heap.size w) (.cells #[.int .i64 0, .string ⟨#[]⟩, .int .i64 0, .int .i64 0, .slice none 0 0] 40)) g none)
 have hu40 := Try.underlying40
 have hu115 := Try.underlying115
 obtain ⟨D, hD⟩ : ∃ D : Int, ((d + 1 : Nat) : Int) = D := ⟨_, rfl⟩
 rw [hD] at z9 HW1 ⊢
 clear h hB hd hD ih hn h8 hlb
 go_enter Try.func100, Try.ntmps100
 go_wp2_with (fail)
 refine (Rf.takeO_ w0 _ g (some (c :: r)) 1 HS.out HB.out).mono ?_
 rintro e w1 ⟨v, rfl, ho, hl⟩
 rw [take1] at ho hl
 obtain ⟨A5, c5, rfl, hl5, hr5⟩ := Ob.reads ho
 obtain ⟨ad5, rfl, hc5⟩ := Rb.at0 hr5
 have HL := Aside0.mk (show Rf.Left w0 w w1 g (some r) from ⟨hl.1, hl.2.1, HKW.out.trans hl.2.2 (.inl rfl)⟩)
 have H01 := Aside0.mk (H0.out.keep hl.2.2 (by have := HG.out; omega))
 clear ho hl hl5 hr5
 have hf1 := HL.out.1.fail.1
 have hf2 := HL.out.1.fail.2
 (try simp only [Option.isSome_some, Option.isSome_none, Bool.not_true, Bool.not_false] at hf1)
 go_wp2_with (fail)
 refine (hanaperref20_named.calls c (namedB c) _ (named_v2 c)).mono ?_
 rintro e w3 ⟨rfl, hd⟩
 rw [HNM.out]
 have hb := drawn_b hd
 have HL_3 := Aside0.mk (leftR_below (leftR_below HL.out (below_alloc (Below.refl _ _) _)) hb)
 have H0_3 := Aside0.mk ((H01.out.alloc (.cells #[.int .i64 c, .string ⟨#[]⟩, .int .i64 0, .int .i64 0, .slice none 0 0] 40)).below hb)
 have HT_3 := Aside0.mk ((show Blk (w1.alloc (.cells #[.int .i64 c, .string ⟨#[]⟩, .int .i64 0, .int .i64 0, .slice none 0 0] 40)) w1.heap.size 40 #[.int .i64 c, .string ⟨#[]⟩, .int .i64 0, .int .i64 0, .slice none 0 0] from blk_new _ _).below hb)
 clear hb hd hf1 hf2
 have x0 := (HT_3.out).cell 0
 have x1 := (HT_3.out).cell 1
 have x2 := (HT_3.out).cell 2
 have x3 := (HT_3.out).cell 3
 have x4 := (HT_3.out).cell 4
 simp only [List.getElem?_toArray, List.getElem?_cons_zero, List.getElem?_cons_succ] at x0 x1 x2 x3 x4
 have f0 := blk_frozen (HT_3.out) 0
 have f1 := blk_frozen (HT_3.out) 1
 have f2 := blk_frozen (HT_3.out) 2
 have f3 := blk_frozen (HT_3.out) 3
 have f4 := blk_frozen (HT_3.out) 4
 go_wp2_with (fail)
 refine (hanaperref20_many.calls c (decide (c = 6 ∨ c = 7)) _ (many_v c)).mono ?_
 rintro e w13 ⟨rfl, hd⟩
 rw [HMY.out]
 have hb := drawn_b hd
 have HL_13 := Aside0.mk (leftR_below HL_3.out hb)
 have H0_13 := Aside0.mk (H0_3.out.below hb)
 have HT_13 := Aside0.mk (HT_3.out.below hb)
 clear hb hd x0 x1 x2 x3 x4 f0 f1 f2 f3 f4
 have x0 := (HT_13.out).cell 0
 have x1 := (HT_13.out).cell 1
 have x2 := (HT_13.out).cell 2
 have x3 := (HT_13.out).cell 3
 have x4 := (HT_13.out).cell 4
 simp only [List.getElem?_toArray, List.getElem?_cons_zero, List.getElem?_cons_succ] at x0 x1 x2 x3 x4
 have f0 := blk_frozen (HT_13.out) 0
 have f1 := blk_frozen (HT_13.out) 1
 have f2 := blk_frozen (HT_13.out) 2
 have f3 := blk_frozen (HT_13.out) 3
 have f4 := blk_frozen (HT_13.out) 4
 go_upto_region 16 with (fail)
 obtain ⟨W, hW⟩ : ∃ W, w13 = W := ⟨_, rfl⟩
 have HKD := Aside0.mk (show KidsR w0 w W g w1.heap.size c emptyS 0 0 [] (some r) by rw [← hW]; exact ⟨.slice none 0 0, ⟨_, _, _, rfl⟩, HT_13.out, Kd.R_nil _ _ _ _ _, HL_13.out, H0_13.out⟩)
 rw [hW]
 have HGT := Aside0.mk (show w.heap.size < w1.heap.size by have := HL.out.2.2.1; have := H01.out.lt; omega)
 obtain ⟨gt, hgt⟩ : ∃ k, w1.heap.size = k := ⟨_, rfl⟩
 rw [hgt] at HKD HGT ⊢
 have HNL := Aside0.mk (show 1 ≤ 24 by omega)
 have hnr : True := trivial
 have hN : True := trivial
 have hw9 := HW1.out
 have hw8 : IntKind.i64.wrap (D - 1) = (d : Int) := by have h := hw9; rw [IntKind.wrap_i64]; unfold wrap64 at h; omega
 clear hW hgt hnr  x0 x1 x2 x3 x4 f0 f1 f2 f3 f4
 go_wp2
 try rw [hN]
 clear hN
 go_loopg [8] 1 (fun gf s8 wx => ∃ (i : Nat) (ks : List S40) (s : Option (List Int)) (wy : World), wy = wx ∧ s8 = .int .i64 (i : Int) ∧ i + gf = 1 ∧ ks.length ≤ i ∧ KidsR w0 w wy g gt c emptyS 0 0 ks s ∧ InvR d 1 (some r) i ks s)
 case atStart => exact ⟨0, [], (some r), _, rfl, rfl, by omega, by simp, HKD.out, inv_start d 1 (some r)⟩
 case round =>
  obtain ⟨i, ks, s, wx, rfl, rfl, hi, hkl, ⟨v3, ⟨A3, n3, c3, rfl⟩, hT, hR, hL, h0⟩, hIv⟩ := hrel
  have HQ := Aside0.mk hi; have HLK := Aside0.mk hkl; have HT := Aside0.mk hT; have HR := Aside0.mk hR; have HLL := Aside0.mk hL; have H0 := Aside0.mk h0; have HIV := Aside0.mk hIv
  clear hi hkl hT hR hL h0 hIv HKD
  by_cases hlt : i < 1
  ·have hl1 : decide ((i : Int) < (1 : Int)) = true := decide_eq_true (by omega)
   cases s with
   | none =>
    have hf1 := HLL.out.1.fail.1
    have hf2 := HLL.out.1.fail.2
    (try simp only [Option.isSome_some, Option.isSome_none, Bool.not_true, Bool.not_false] at hf1)
    have x0 := (HT.out).cell 0
    have x1 := (HT.out).cell 1
    have x2 := (HT.out).cell 2
    have x3 := (HT.out).cell 3
    have x4 := (HT.out).cell 4
    simp only [List.getElem?_toArray, List.getElem?_cons_zero, List.getElem?_cons_succ] at x0 x1 x2 x3 x4
    have z0 := (H0.out).cell 0
    have z1 := (H0.out).cell 1
    have z2 := (H0.out).cell 2
    have z3 := (H0.out).cell 3
    have z4 := (H0.out).cell 4
    simp only [List.getElem?_toArray, List.getElem?_cons_zero, List.getElem?_cons_succ] at z0 z1 z2 z3 z4
    have y0 := blk_frozen (H0.out) 0
    have y1 := blk_frozen (H0.out) 1
    have y2 := blk_frozen (H0.out) 2
    have y3 := blk_frozen (H0.out) 3
    have y4 := blk_frozen (H0.out) 4
    go_wp2_with (fail)
    refine bodyPost_ret (results_cell_row rfl _ _ w.heap.size 40 #[.int .i64 c, .string emptyS, .int .i64 0, .int .i64 0, .slice A3 n3 c3] (0, 0) _ rfl (set5 H0.out _ _ _ _ _) Try.underlying40 rfl (by kernel_rfl)) rfl ?_
    have hko := kidsR_out HR.out HLL.out H0.out HG.out HGT.out (.int .i64 c) (.string emptyS) (.int .i64 0) (.int .i64 0) (.slice A3 n3 c3)
    refine ⟨⟨c, emptyS, 0, 0, ks⟩, .slice A3 n3 c3, none, rfl, hko.1, hko.2, ?_⟩
    rw [HE.out]
    exact inv_end HIV.out (.inr rfl) c emptyS 0 0
   | some r' =>
    have hw1 : wrap64 ((i : Int) + 1) = ((i + 1 : Nat) : Int) := by have := HNL.out; rw [Aid.w64 (by omega) (by omega)]; omega
    have HLN := Aside0.mk (show (ks.length + 1) * 64 ≤ 140737488355328 by have := HLK.out; have := HQ.out; have := HNL.out; omega)
    have hf1 := HLL.out.1.fail.1
    have hf2 := HLL.out.1.fail.2
    (try simp only [Option.isSome_some, Option.isSome_none, Bool.not_true, Bool.not_false] at hf1)
    have x0 := (HT.out).cell 0
    have x1 := (HT.out).cell 1
    have x2 := (HT.out).cell 2
    have x3 := (HT.out).cell 3
    have x4 := (HT.out).cell 4
    simp only [List.getElem?_toArray, List.getElem?_cons_zero, List.getElem?_cons_succ] at x0 x1 x2 x3 x4
    have X0 := (HT.out.below (below_drew1 (Below.refl _ _))).cell 0
    have X1 := (HT.out.below (below_drew1 (Below.refl _ _))).cell 1
    have X2 := (HT.out.below (below_drew1 (Below.refl _ _))).cell 2
    have X3 := (HT.out.below (below_drew1 (Below.refl _ _))).cell 3
    have X4 := (HT.out.below (below_drew1 (Below.refl _ _))).cell 4
    simp only [List.getElem?_toArray, List.getElem?_cons_zero, List.getElem?_cons_succ] at X0 X1 X2 X3 X4
    have v0 := blk_frozen (HT.out) 0
    have v1 := blk_frozen (HT.out) 1
    have v2 := blk_frozen (HT.out) 2
    have v3 := blk_frozen (HT.out) 3
    have v4 := blk_frozen (HT.out) 4
    go_upto_region 19 with (fail)
    have HCD := Aside0.mk (HIH.out w0 wx.drew g (some r') (HLL.out.1.below (below_drew1 (Below.refl _ _))) (below_drew1 HLL.out.2.1))
    go_region_law (first
     | (go_simp; go_at_call 100; refine HCD.out.mono ?_; rintro e w7 ⟨y, q3, st, rfl, ho3, hl, hm⟩; obtain ⟨B3, e3, rfl⟩ := Kd.R_slice ho3; have HKW6 := Aside0.mk ((KeepBut.of_below (below_drew1 (Below.refl wx.heap.size wx)) g none).trans hl.2.2 (.inl rfl)); have HL7 := Aside0.mk (show Rf.Left w0 w w7 g st from ⟨hl.1, hl.2.1, HLL.out.2.2.trans HKW6.out (.inl rfl)⟩); have HT7 := Aside0.mk (HT.out.keep HKW6.out (by have := HG.out; have := HGT.out; omega)); have H07 := Aside0.mk (H0.out.keep HKW6.out (by have := HG.out; omega)); have HR7 := Aside0.mk (Kd.R_keep HR.out HKW6.out (fun _ h => h.1)); have HM := Aside0.mk (k40_mkM _ (gt + 1) (fun k => wx.heap.size ≤ k) y (Kd.R_mono (Kd.R_lower (Kd.R_bound ho3) (show gt + 1 ≤ wx.drew.heap.size from HT.out.lt)) (fun _ h => h.2.1))); have HOK := Aside0.mk (show ∀ k, wx.heap.size ≤ k → (k ≠ g ∧ k ≠ gt) ∧ some k ≠ (Value.slice A3 n3 c3).ownBlock from fun k hk => ⟨⟨by have := HG.out; have := HT.out.lt; have := HGT.out; omega, by have := HT.out.lt; omega⟩, fun e => by have := Kd.R_lt HR.out k e.symm; omega⟩); have HSZ := Aside0.mk (show gt + 1 ≤ w7.heap.size from HT7.out.lt); have HFR := Aside0.mk (show ∀ k, w7.heap.size ≤ k → k ≠ g ∧ k ≠ gt from fun k hk => ⟨by have := HG.out; have := HGT.out; have := HSZ.out; omega, by have := HSZ.out; omega⟩); have HIN := Aside0.mk (inv_next HIV.out hlt hm); have t5_ := fun o => (HT7.out.alloc o).cell 4; have t3_ := HT7.out.cell 4; have f3_ := blk_frozen HT7.out 4; simp only [List.getElem?_toArray, List.getElem?_cons_zero, List.getElem?_cons_succ] at t3_ t5_; clear ho3 hl hm)
     | (go_must (refine Kd.R_append_step k40 (gt + 1) rfl (.tmp 65) (.tmp 70) 38 40 (.agg #[.int .i64 0, .string ⟨#[]⟩, .int .i64 0, .int .i64 0, .slice none 0 0]) 64 rfl Try.underlying38 info_s rfl (by decide) (by decide) _ ks y _ (fun k => k ≠ g ∧ k ≠ gt) (fun k => wx.heap.size ≤ k) rfl (by first | rfl | (rw [size_alloc_]; rfl)) HM.out HOK.out HFR.out HR7.out (Below.refl _ _) HSZ.out HLN.out ?_); intro v1 w8 hr1 hb1 hg1 _; obtain ⟨A9, c9, rfl⟩ := Kd.R_slice hr1; have HMORE := Aside0.mk (kidsR_more HT7.out HR7.out HL7.out H07.out hr1 hb1 hg1 HG.out HGT.out); have t3__ := blk_frozen HMORE.out.1 4; have t4__ := HMORE.out.1.cell 4; simp only [List.getElem?_toArray, List.getElem?_cons_zero, List.getElem?_cons_succ] at t4__; clear hr1 hb1 hg1))
    all_goals
     go_wp2_with (fail)
     go_roundg (1 - (i + 1))
     case measure => have := HQ.out; omega
     case rel => exact ⟨i + 1, ks ++ [y], st, _, rfl, by first | rfl | rw [hw1], by omega, by have := HLK.out; rw [List.length_append, List.length_singleton]; omega, by have hm := HMORE.out.2; rw [List.length_append] at hm; exact hm, HIN.out⟩
  ·have hl1 : decide ((i : Int) < (1 : Int)) = false := decide_eq_false (by omega)
   cases s with
   | none =>
    have hf1 := HLL.out.1.fail.1
    have hf2 := HLL.out.1.fail.2
    (try simp only [Option.isSome_some, Option.isSome_none, Bool.not_true, Bool.not_false] at hf1)
    have x0 := (HT.out).cell 0
    have x1 := (HT.out).cell 1
    have x2 := (HT.out).cell 2
    have x3 := (HT.out).cell 3
    have x4 := (HT.out).cell 4
    simp only [List.getElem?_toArray, List.getElem?_cons_zero, List.getElem?_cons_succ] at x0 x1 x2 x3 x4
    have z0 := (H0.out).cell 0
    have z1 := (H0.out).cell 1
    have z2 := (H0.out).cell 2
    have z3 := (H0.out).cell 3
    have z4 := (H0.out).cell 4
    simp only [List.getElem?_toArray, List.getElem?_cons_zero, List.getElem?_cons_succ] at z0 z1 z2 z3 z4
    have y0 := blk_frozen (H0.out) 0
    have y1 := blk_frozen (H0.out) 1
    have y2 := blk_frozen (H0.out) 2
    have y3 := blk_frozen (H0.out) 3
    have y4 := blk_frozen (H0.out) 4
    go_wp2_with (fail)
    refine bodyPost_ret (results_cell_row rfl _ _ w.heap.size 40 #[.int .i64 c, .string emptyS, .int .i64 0, .int .i64 0, .slice A3 n3 c3] (0, 0) _ rfl (set5 H0.out _ _ _ _ _) Try.underlying40 rfl (by kernel_rfl)) rfl ?_
    have hko := kidsR_out HR.out HLL.out H0.out HG.out HGT.out (.int .i64 c) (.string emptyS) (.int .i64 0) (.int .i64 0) (.slice A3 n3 c3)
    refine ⟨⟨c, emptyS, 0, 0, ks⟩, .slice A3 n3 c3, none, rfl, hko.1, hko.2, ?_⟩
    rw [HE.out]
    exact inv_end HIV.out (.inr rfl) c emptyS 0 0
   | some r' =>
    have hf1 := HLL.out.1.fail.1
    have hf2 := HLL.out.1.fail.2
    (try simp only [Option.isSome_some, Option.isSome_none, Bool.not_true, Bool.not_false] at hf1)
    have x0 := (HT.out).cell 0
    have x1 := (HT.out).cell 1
    have x2 := (HT.out).cell 2
    have x3 := (HT.out).cell 3
    have x4 := (HT.out).cell 4
    simp only [List.getElem?_toArray, List.getElem?_cons_zero, List.getElem?_cons_succ] at x0 x1 x2 x3 x4
    have z0 := (H0.out).cell 0
    have z1 := (H0.out).cell 1
    have z2 := (H0.out).cell 2
    have z3 := (H0.out).cell 3
    have z4 := (H0.out).cell 4
    simp only [List.getElem?_toArray, List.getElem?_cons_zero, List.getElem?_cons_succ] at z0 z1 z2 z3 z4
    have y0 := blk_frozen (H0.out) 0
    have y1 := blk_frozen (H0.out) 1
    have y2 := blk_frozen (H0.out) 2
    have y3 := blk_frozen (H0.out) 3
    have y4 := blk_frozen (H0.out) 4
    go_wp2_with (fail)
    refine bodyPost_ret (results_cell_row rfl _ _ w.heap.size 40 #[.int .i64 c, .string emptyS, .int .i64 0, .int .i64 0, .slice A3 n3 c3] (0, 0) _ rfl (set5 H0.out _ _ _ _ _) Try.underlying40 rfl (by kernel_rfl)) rfl ?_
    have hko := kidsR_out HR.out HLL.out H0.out HG.out HGT.out (.int .i64 c) (.string emptyS) (.int .i64 0) (.int .i64 0) (.slice A3 n3 c3)
    refine ⟨⟨c, emptyS, 0, 0, ks⟩, .slice A3 n3 c3, (some r'), rfl, hko.1, hko.2, ?_⟩
    rw [HE.out]
    exact inv_end HIV.out (.inl (by omega)) c emptyS 0 0

set_option maxHeartbeats 8000000 in
set_option maxRecDepth 100000 in
theorem rread_O (d : Nat) (hd : d + 1 ≤ 8) (ih : ∀ w0 w g st, Rf.RfO w0 w g st → Below w0.heap.size w0 w → Calls Try.prog 100 #[.pointer (some ⟨g, 0, none⟩), .int .i64 (d : Int)] w (ReadR w0 w g (readS d st))) (w0 w : World) (g : Nat) (c : Int) (r : List Int) (h : Rf.RfO w0 w g (some (c :: r))) (hB : Below w0.heap.size w0 w) (hn : namedB c = false) (h5 : c ≠ 5) (h6 : ¬ (c = 6 ∨ c = 7)) (h8 : c ≠ 8) :
  Calls Try.prog 100 #[.pointer (some ⟨g, 0, none⟩), .int .i64 ((d + 1 : Nat) : Int)] w (ReadR w0 w g (readS (d + 1) (some (c :: r)))) := by
 have z5 : (c == 5) = false := by rw [beq_eq_false_iff_ne]; omega
 have z8 : (c == 8) = false := by rw [beq_eq_false_iff_ne]; omega
 have HMY := Aside0.mk (show decide (c = 6 ∨ c = 7) = false from decide_eq_false (by omega))
 have hlb : leastB c = 0 := by unfold leastB; rw [if_neg h8, if_neg (by omega), if_neg (by omega)]
 have HE := Aside0.mk (show readS (d + 1) (some (c :: r)) = match readK (readS d) 0 (some r) with
   | some (ks, some s) => some (⟨c, emptyS, 0, 0, ks⟩, s)
   | _ => none by
  rw [readS, take1]
  simp only [List.getD_cons_zero]
  unfold headR
  rw [if_neg (by rw [hn]; decide), if_neg h5, if_neg h6]
  rw [hlb]
  rfl)
 have HIH := Aside0.mk ih
 have HD8 := Aside0.mk hd
 have HU := Aside0.mk h.u8
 have hc0 := (show 0 ≤ c ∧ c ≤ 255 from h.u8.1.head).1
 have hc1 := (show 0 ≤ c ∧ c ≤ 255 from h.u8.1.head).2
 have z9 : decide (((d + 1 : Nat) : Int) < 1) = false := decide_eq_false (by omega)
 have HW1 := Aside0.mk (show wrap64 (((d + 1 : Nat) : Int) - 1) = (d : Int) from by rw [Aid.w64 (by omega) (by omega)]; omega)
 have HNM := Aside0.mk hn
 have HB := Aside0.mk (below_step hB (below_alloc (Below.refl w.heap.size w) (.cells #[.int .i64 0, .string ⟨#[]⟩, .int .i64 0, .int .i64 0, .slice none 0 0] 40)))
 have HS := Aside0.mk (h.below (below_alloc (Below.refl w.heap.size w) (.cells #[.int .i64 0, .string ⟨#[]⟩, .int .i64 0, .int .i64 0, .slice none 0 0] 40)))
 have H0 := Aside0.mk (show Blk (w.alloc (.cells #[.int .i64 0, .string ⟨#[]⟩, .int .i64 0, .int .i64 0, .slice none 0 0] 40)) w.heap.size 40 #[.int .i64 0, .string ⟨#[]⟩, .int .i64 0, .int .i64 0, .slice none 0 0] from blk_new _ _)
 have HG := Aside0.mk (show w0.heap.size ≤ w.heap.size ∧ g < w.heap.size from ⟨hB.size, h.blk.2.1⟩)
 have HKW := Aside0.mk (KeepBut.of_below (below_alloc (Below.refl w.heap.size w) (.cells #[.int .i64 0, .string ⟨#[]⟩, .int .i64 0, .int .i64 0, .slice none 0 0] 40)) g none)
 have hu40 := Try.underlying40
 have hu115 := Try.underlying115
 obtain ⟨D, hD⟩ : ∃ D : Int, ((d + 1 : Nat) : Int) = D := ⟨_, rfl⟩
 rw [hD] at z9 HW1 ⊢
 clear h hB hd hD ih hn h5 h6 h8 hlb
 go_enter Try.func100, Try.ntmps100
 go_wp2_with (fail)
 refine (Rf.takeO_ w0 _ g (some (c :: r)) 1 HS.out HB.out).mono ?_
 rintro e w1 ⟨v, rfl, ho, hl⟩
 rw [take1] at ho hl
 obtain ⟨A5, c5, rfl, hl5, hr5⟩ := Ob.reads ho
 obtain ⟨ad5, rfl, hc5⟩ := Rb.at0 hr5
 have HL := Aside0.mk (show Rf.Left w0 w w1 g (some r) from ⟨hl.1, hl.2.1, HKW.out.trans hl.2.2 (.inl rfl)⟩)
 have H01 := Aside0.mk (H0.out.keep hl.2.2 (by have := HG.out; omega))
 clear ho hl hl5 hr5
 have hf1 := HL.out.1.fail.1
 have hf2 := HL.out.1.fail.2
 (try simp only [Option.isSome_some, Option.isSome_none, Bool.not_true, Bool.not_false] at hf1)
 go_wp2_with (fail)
 refine (hanaperref20_named.calls c (namedB c) _ (named_v2 c)).mono ?_
 rintro e w3 ⟨rfl, hd⟩
 rw [HNM.out]
 have hb := drawn_b hd
 have HL_3 := Aside0.mk (leftR_below (leftR_below HL.out (below_alloc (Below.refl _ _) _)) hb)
 have H0_3 := Aside0.mk ((H01.out.alloc (.cells #[.int .i64 c, .string ⟨#[]⟩, .int .i64 0, .int .i64 0, .slice none 0 0] 40)).below hb)
 have HT_3 := Aside0.mk ((show Blk (w1.alloc (.cells #[.int .i64 c, .string ⟨#[]⟩, .int .i64 0, .int .i64 0, .slice none 0 0] 40)) w1.heap.size 40 #[.int .i64 c, .string ⟨#[]⟩, .int .i64 0, .int .i64 0, .slice none 0 0] from blk_new _ _).below hb)
 clear hb hd hf1 hf2
 have x0 := (HT_3.out).cell 0
 have x1 := (HT_3.out).cell 1
 have x2 := (HT_3.out).cell 2
 have x3 := (HT_3.out).cell 3
 have x4 := (HT_3.out).cell 4
 simp only [List.getElem?_toArray, List.getElem?_cons_zero, List.getElem?_cons_succ] at x0 x1 x2 x3 x4
 have f0 := blk_frozen (HT_3.out) 0
 have f1 := blk_frozen (HT_3.out) 1
 have f2 := blk_frozen (HT_3.out) 2
 have f3 := blk_frozen (HT_3.out) 3
 have f4 := blk_frozen (HT_3.out) 4
 go_wp2_with (fail)
 refine (hanaperref20_many.calls c (decide (c = 6 ∨ c = 7)) _ (many_v c)).mono ?_
 rintro e w13 ⟨rfl, hd⟩
 rw [HMY.out]
 have hb := drawn_b hd
 have HL_13 := Aside0.mk (leftR_below HL_3.out hb)
 have H0_13 := Aside0.mk (H0_3.out.below hb)
 have HT_13 := Aside0.mk (HT_3.out.below hb)
 clear hb hd x0 x1 x2 x3 x4 f0 f1 f2 f3 f4
 have x0 := (HT_13.out).cell 0
 have x1 := (HT_13.out).cell 1
 have x2 := (HT_13.out).cell 2
 have x3 := (HT_13.out).cell 3
 have x4 := (HT_13.out).cell 4
 simp only [List.getElem?_toArray, List.getElem?_cons_zero, List.getElem?_cons_succ] at x0 x1 x2 x3 x4
 have f0 := blk_frozen (HT_13.out) 0
 have f1 := blk_frozen (HT_13.out) 1
 have f2 := blk_frozen (HT_13.out) 2
 have f3 := blk_frozen (HT_13.out) 3
 have f4 := blk_frozen (HT_13.out) 4
 go_upto_region 16 with (fail)
 obtain ⟨W, hW⟩ : ∃ W, w13 = W := ⟨_, rfl⟩
 have HKD := Aside0.mk (show KidsR w0 w W g w1.heap.size c emptyS 0 0 [] (some r) by rw [← hW]; exact ⟨.slice none 0 0, ⟨_, _, _, rfl⟩, HT_13.out, Kd.R_nil _ _ _ _ _, HL_13.out, H0_13.out⟩)
 rw [hW]
 have HGT := Aside0.mk (show w.heap.size < w1.heap.size by have := HL.out.2.2.1; have := H01.out.lt; omega)
 obtain ⟨gt, hgt⟩ : ∃ k, w1.heap.size = k := ⟨_, rfl⟩
 rw [hgt] at HKD HGT ⊢
 have HNL := Aside0.mk (show 0 ≤ 24 by omega)
 have hnr : True := trivial
 have hN : True := trivial
 have hw9 := HW1.out
 have hw8 : IntKind.i64.wrap (D - 1) = (d : Int) := by have h := hw9; rw [IntKind.wrap_i64]; unfold wrap64 at h; omega
 clear hW hgt hnr  x0 x1 x2 x3 x4 f0 f1 f2 f3 f4
 go_wp2
 try rw [hN]
 clear hN
 go_loopg [8] 0 (fun gf s8 wx => ∃ (i : Nat) (ks : List S40) (s : Option (List Int)) (wy : World), wy = wx ∧ s8 = .int .i64 (i : Int) ∧ i + gf = 0 ∧ ks.length ≤ i ∧ KidsR w0 w wy g gt c emptyS 0 0 ks s ∧ InvR d 0 (some r) i ks s)
 case atStart => exact ⟨0, [], (some r), _, rfl, rfl, by omega, by simp, HKD.out, inv_start d 0 (some r)⟩
 case round =>
  obtain ⟨i, ks, s, wx, rfl, rfl, hi, hkl, ⟨v3, ⟨A3, n3, c3, rfl⟩, hT, hR, hL, h0⟩, hIv⟩ := hrel
  have HQ := Aside0.mk hi; have HLK := Aside0.mk hkl; have HT := Aside0.mk hT; have HR := Aside0.mk hR; have HLL := Aside0.mk hL; have H0 := Aside0.mk h0; have HIV := Aside0.mk hIv
  clear hi hkl hT hR hL h0 hIv HKD
  by_cases hlt : i < 0
  ·exact absurd hlt (Nat.not_lt_zero _)
  ·have hl1 : decide ((i : Int) < (0 : Int)) = false := decide_eq_false (by omega)
   cases s with
   | none =>
    have hf1 := HLL.out.1.fail.1
    have hf2 := HLL.out.1.fail.2
    (try simp only [Option.isSome_some, Option.isSome_none, Bool.not_true, Bool.not_false] at hf1)
    have x0 := (HT.out).cell 0
    have x1 := (HT.out).cell 1
    have x2 := (HT.out).cell 2
    have x3 := (HT.out).cell 3
    have x4 := (HT.out).cell 4
    simp only [List.getElem?_toArray, List.getElem?_cons_zero, List.getElem?_cons_succ] at x0 x1 x2 x3 x4
    have z0 := (H0.out).cell 0
    have z1 := (H0.out).cell 1
    have z2 := (H0.out).cell 2
    have z3 := (H0.out).cell 3
    have z4 := (H0.out).cell 4
    simp only [List.getElem?_toArray, List.getElem?_cons_zero, List.getElem?_cons_succ] at z0 z1 z2 z3 z4
    have y0 := blk_frozen (H0.out) 0
    have y1 := blk_frozen (H0.out) 1
    have y2 := blk_frozen (H0.out) 2
    have y3 := blk_frozen (H0.out) 3
    have y4 := blk_frozen (H0.out) 4
    go_wp2_with (fail)
    refine bodyPost_ret (results_cell_row rfl _ _ w.heap.size 40 #[.int .i64 c, .string emptyS, .int .i64 0, .int .i64 0, .slice A3 n3 c3] (0, 0) _ rfl (set5 H0.out _ _ _ _ _) Try.underlying40 rfl (by kernel_rfl)) rfl ?_
    have hko := kidsR_out HR.out HLL.out H0.out HG.out HGT.out (.int .i64 c) (.string emptyS) (.int .i64 0) (.int .i64 0) (.slice A3 n3 c3)
    refine ⟨⟨c, emptyS, 0, 0, ks⟩, .slice A3 n3 c3, none, rfl, hko.1, hko.2, ?_⟩
    rw [HE.out]
    exact inv_end HIV.out (.inr rfl) c emptyS 0 0
   | some r' =>
    have hf1 := HLL.out.1.fail.1
    have hf2 := HLL.out.1.fail.2
    (try simp only [Option.isSome_some, Option.isSome_none, Bool.not_true, Bool.not_false] at hf1)
    have x0 := (HT.out).cell 0
    have x1 := (HT.out).cell 1
    have x2 := (HT.out).cell 2
    have x3 := (HT.out).cell 3
    have x4 := (HT.out).cell 4
    simp only [List.getElem?_toArray, List.getElem?_cons_zero, List.getElem?_cons_succ] at x0 x1 x2 x3 x4
    have z0 := (H0.out).cell 0
    have z1 := (H0.out).cell 1
    have z2 := (H0.out).cell 2
    have z3 := (H0.out).cell 3
    have z4 := (H0.out).cell 4
    simp only [List.getElem?_toArray, List.getElem?_cons_zero, List.getElem?_cons_succ] at z0 z1 z2 z3 z4
    have y0 := blk_frozen (H0.out) 0
    have y1 := blk_frozen (H0.out) 1
    have y2 := blk_frozen (H0.out) 2
    have y3 := blk_frozen (H0.out) 3
    have y4 := blk_frozen (H0.out) 4
    go_wp2_with (fail)
    refine bodyPost_ret (results_cell_row rfl _ _ w.heap.size 40 #[.int .i64 c, .string emptyS, .int .i64 0, .int .i64 0, .slice A3 n3 c3] (0, 0) _ rfl (set5 H0.out _ _ _ _ _) Try.underlying40 rfl (by kernel_rfl)) rfl ?_
    have hko := kidsR_out HR.out HLL.out H0.out HG.out HGT.out (.int .i64 c) (.string emptyS) (.int .i64 0) (.int .i64 0) (.slice A3 n3 c3)
    refine ⟨⟨c, emptyS, 0, 0, ks⟩, .slice A3 n3 c3, (some r'), rfl, hko.1, hko.2, ?_⟩
    rw [HE.out]
    exact inv_end HIV.out (.inl (by omega)) c emptyS 0 0

set_option maxHeartbeats 1000000 in
theorem rread_c : ∀ (d : Nat), d ≤ 8 → ∀ (w0 w : World) (g : Nat) (st : Option (List Int)), Rf.RfO w0 w g st → Below w0.heap.size w0 w →
  Calls Try.prog 100 #[.pointer (some ⟨g, 0, none⟩), .int .i64 (d : Int)] w (ReadR w0 w g (readS d st)) := by
 intro d
 induction d with
 | zero =>
  intro hd w0 w g st h hB
  match st, h with
  | none, h => exact rread_fail 0 hd w0 w g none h hB (by simp [takeO])
  | some [], h => exact rread_fail 0 hd w0 w g (some []) h hB (by simp [takeO])
  | some (c :: r), h => exact rread_zero w0 w g c r h hB
 | succ d ih =>
  intro hd w0 w g st h hB
  match st, h with
  | none, h => exact rread_fail (d + 1) hd w0 w g none h hB (by simp [takeO])
  | some [], h => exact rread_fail (d + 1) hd w0 w g (some []) h hB (by simp [takeO])
  | some (c :: r), h =>
   have ih' := ih (by omega)
   cases hn : namedB c with
   | true => exact rread_N d hd ih' w0 w g c r h hB hn
   | false =>
    by_cases h5 : c = 5
    ·exact rread_T d hd ih' w0 w g c r h hB hn h5
    by_cases h6 : c = 6 ∨ c = 7
    ·exact rread_M d hd ih' w0 w g c r h hB hn h6
    by_cases h8 : c = 8
    ·exact rread_E d hd ih' w0 w g c r h hB hn h8
    exact rread_O d hd ih' w0 w g c r h hB hn h5 h6 h8

end Go.Proofs.Ytgdpabedlghiaaa.Scope
/- scope.Get walked: which scope bytes are. -/
namespace Go.Proofs.Ytgdpabedlghiaaa.Scope
set_option linter.unusedVariables false
set_option linter.unusedSimpArgs false
open Go.RowKit Go.Proofs.Ytgdpabedlghiaaa.Base Go.Proofs.Ytgdpabedlghiaaa.TlvPlain Go.Proofs.Ytgdpabedlghiaaa.Lo Go.Proofs.Ytgdpabedlghiaaa.RdPlain Go.Proofs.Ytgdpabedlghiaaa.Aid Go.Proofs.Ytgdpabedlghiaaa.PZ Go.Proofs.YtgdpabedlghiaaaW.PrintWords Go.Proofs.YtgdpabedlghiaaaW.PrintLast Go.Proofs.YtgdpabedlghiaaaW.PrintMore
open Tlv (RdO takeO_ okO leftO_ newO)
def GetQ (w : World) (b : List Int) (e : Ending) (w' : World) : Prop := ∃ v, e = .returned (.tuple #[.agg #[.int .i64 (getSc b).1.f0, .string (getSc b).1.f1, .int .i64 (getSc b).1.f2, .int .i64 (getSc b).1.f3, v], .int .i64 (getSc b).2]) ∧ Kd.R k40 40 w' w.heap.size (fun _ => True) v (getSc b).1.f4 ∧ Below w.heap.size w w'
theorem get_no {b : List Int} (h : readS 8 (some b) = none) : getSc b = (z40s, 2) := by unfold getSc; rw [h]
theorem get_left {b : List Int} {x : S40} {c : Int} {r : List Int} (h : readS 8 (some b) = some (x, c :: r)) : getSc b = (z40s, 2) := by unfold getSc; rw [h]
theorem get_bad {b : List Int} {x : S40} (h : readS 8 (some b) = some (x, [])) (hm : mayB x = false) : getSc b = (z40s, 2) := by unfold getSc; rw [h]; dsimp only; rw [if_neg (by rw [hm]; decide)]
theorem get_ok {b : List Int} {x : S40} (h : readS 8 (some b) = some (x, [])) (hm : mayB x = true) : getSc b = (x, 0) := by unfold getSc; rw [h]; dsimp only; rw [if_pos hm]
theorem below_set5 {w W : World} (h : Below w.heap.size w W) (a b c d e : Value) : Below w.heap.size w (((((W.setCell ⟨w.heap.size, 0, none⟩ a).setCell ⟨w.heap.size, 1, none⟩ b).setCell ⟨w.heap.size, 2, none⟩ c).setCell ⟨w.heap.size, 3, none⟩ d).setCell ⟨w.heap.size, 4, none⟩ e) :=
 below_set (below_set (below_set (below_set (below_set h (Nat.le_refl _)) (Nat.le_refl _)) (Nat.le_refl _)) (Nat.le_refl _)) (Nat.le_refl _)
theorem r_set5 {α : Type} {d : Kd α} {e : Nat} {W : World} {q base : Nat} {v : Value} {xs : List α} {ok : Nat → Prop} (h : Kd.R d e W base ok v xs) (hb : q < base) (a b c f k : Value) : Kd.R d e (((((W.setCell ⟨q, 0, none⟩ a).setCell ⟨q, 1, none⟩ b).setCell ⟨q, 2, none⟩ c).setCell ⟨q, 3, none⟩ f).setCell ⟨q, 4, none⟩ k) q ok v xs :=
 Kd.R_mono (Kd.R_lower (Kd.R_keep (Kd.R_bound h) ((((((KeepBut.refl W q none).set_ 0 a).set_ 1 b).set_ 2 c).set_ 3 f).set_ 4 k) (fun k hk => by have := hk.2.1; omega)) (by omega)) (fun _ h => h.1)
set_option maxHeartbeats 8000000 in
set_option maxRecDepth 100000 in
theorem get_c (w : World) (A : Option Addr) (c : Nat) (b : List Int) (hr : Rb w A b) (hc : b.length ≤ c) (hl : b.length < 140737488355328) (hu : U8 b) :
  Calls Try.prog 50 #[.slice A b.length c] w (GetQ w b) := by
 have HR := Aside0.mk hr
 have HC := Aside0.mk hc
 have HL := Aside0.mk hl
 have HU := Aside0.mk hu
 have HB := Aside0.mk (below_alloc (Below.refl w.heap.size w) (.cells #[.int .i64 0, .string ⟨#[]⟩, .int .i64 0, .int .i64 0, .slice none 0 0] 40))
 have H0 := Aside0.mk (show Blk (w.alloc (.cells #[.int .i64 0, .string ⟨#[]⟩, .int .i64 0, .int .i64 0, .slice none 0 0] 40)) w.heap.size 40 #[.int .i64 0, .string ⟨#[]⟩, .int .i64 0, .int .i64 0, .slice none 0 0] from blk_new _ _)
 have hu40 := Try.underlying40
 clear hr hl hu hc
 go_enter Try.func50, Try.ntmps50
 go_wp2_with (fail)
 refine (newO A c b _ (Kd.C_below HR.out HB.out) HC.out HL.out HU.out).mono ?_
 rintro e w1 ⟨g, rfl, hs, hb⟩
 have HS := Aside0.mk (RdO.lower hs HB.out.size)
 have HG := Aside0.mk (show w.heap.size + 1 ≤ g by have := hs.blk.1; simpa using this)
 have HB1 := Aside0.mk (below_step HB.out hb)
 have H1 := Aside0.mk (H0.out.below hb)
 clear hs hb HR
 have hc := read_c 8 (by decide) w w1 g (some b) HS.out HB1.out
 cases hr : readS 8 (some b) with
 | none =>
  rw [hr] at hc
  have HCC := Aside0.mk hc
  have HE := Aside0.mk (get_no hr)
  clear hc hr
  go_wp2_with (fail)
  refine HCC.out.mono ?_
  rintro e w' ⟨y0, y1, y2, y3, B3, m3, e3, s', rfl, hl'⟩
  have H0' := Aside0.mk (H1.out.keep hl'.2.2 (by have := HG.out; omega))
  have HB' := Aside0.mk hl'.2.1
  have z0 := fun o => (H0'.out.alloc o).cell 0
  have z1 := fun o => (H0'.out.alloc o).cell 1
  have z2 := fun o => (H0'.out.alloc o).cell 2
  have z3 := fun o => (H0'.out.alloc o).cell 3
  have z4 := fun o => (H0'.out.alloc o).cell 4
  have u0 := fun o => blk_frozen (H0'.out.alloc o) 0
  have u1 := fun o => blk_frozen (H0'.out.alloc o) 1
  have u2 := fun o => blk_frozen (H0'.out.alloc o) 2
  have u3 := fun o => blk_frozen (H0'.out.alloc o) 3
  have u4 := fun o => blk_frozen (H0'.out.alloc o) 4
  simp only [List.getElem?_toArray, List.getElem?_cons_zero, List.getElem?_cons_succ] at z0 z1 z2 z3 z4
  clear hl'
  go_wp2_with (fail)
  refine bodyPost_ret (results_ct rfl _ _ w.heap.size 40 #[.int .i64 0, .string ⟨#[]⟩, .int .i64 0, .int .i64 0, .slice none 0 0] (0, 0) _ rfl (set5 (H0'.out.alloc _) _ _ _ _ _) Try.underlying40 rfl (by kernel_rfl)) rfl ?_
  unfold GetQ
  rw [HE.out]
  exact ⟨_, rfl, Kd.R_nil _ _ _ _ _, below_set5 (below_alloc HB'.out _) _ _ _ _ _⟩
 | some p =>
  obtain ⟨x, r'⟩ := p
  cases r' with
  | cons c0 r0 =>
   rw [hr] at hc
   have HCC := Aside0.mk hc
   have HE := Aside0.mk (get_left hr)
   clear hc hr
   go_wp2_with (fail)
   refine HCC.out.mono ?_
   rintro e w' ⟨q3, rfl, ho3, hl'⟩
   obtain ⟨B3, e3, rfl, k3, r3⟩ := Kd.R_reads ho3
   have HT' := Aside0.mk (show Blk (w'.alloc (.cells #[.int .i64 x.f0, .string x.f1, .int .i64 x.f2, .int .i64 x.f3, .slice B3 x.f4.length e3] 40)) w'.heap.size 40 #[.int .i64 x.f0, .string x.f1, .int .i64 x.f2, .int .i64 x.f3, .slice B3 x.f4.length e3] from blk_new _ _)
   have HO3 := Aside0.mk (Kd.R_alloc ho3 (.cells #[.int .i64 x.f0, .string x.f1, .int .i64 x.f2, .int .i64 x.f3, .slice B3 x.f4.length e3] 40))
   have HS' := Aside0.mk (hl'.1.below (below_alloc (Below.refl _ _) (.cells #[.int .i64 x.f0, .string x.f1, .int .i64 x.f2, .int .i64 x.f3, .slice B3 x.f4.length e3] 40)))
   have H0' := Aside0.mk ((H1.out.keep hl'.2.2 (by have := HG.out; omega)).alloc (.cells #[.int .i64 x.f0, .string x.f1, .int .i64 x.f2, .int .i64 x.f3, .slice B3 x.f4.length e3] 40))
   have HB' := Aside0.mk (below_alloc hl'.2.1 (.cells #[.int .i64 x.f0, .string x.f1, .int .i64 x.f2, .int .i64 x.f3, .slice B3 x.f4.length e3] 40))
   have HCK := Aside0.mk (check_c x B3 e3 (w'.alloc (.cells #[.int .i64 x.f0, .string x.f1, .int .i64 x.f2, .int .i64 x.f3, .slice B3 x.f4.length e3] 40)) (Kd.C_alloc r3 _) k3)
   have HR3 := Aside0.mk (And.intro k3 (Kd.C_alloc r3 (.cells #[.int .i64 x.f0, .string x.f1, .int .i64 x.f2, .int .i64 x.f3, .slice B3 x.f4.length e3] 40)))
   have x0 := HT'.out.cell 0
   have x1 := HT'.out.cell 1
   have x2 := HT'.out.cell 2
   have x3 := HT'.out.cell 3
   have x4 := HT'.out.cell 4
   simp only [List.getElem?_toArray, List.getElem?_cons_zero, List.getElem?_cons_succ] at x0 x1 x2 x3 x4
   have z0 := H0'.out.cell 0
   have z1 := H0'.out.cell 1
   have z2 := H0'.out.cell 2
   have z3 := H0'.out.cell 3
   have z4 := H0'.out.cell 4
   simp only [List.getElem?_toArray, List.getElem?_cons_zero, List.getElem?_cons_succ] at z0 z1 z2 z3 z4
   have u0 := blk_frozen H0'.out 0
   have u1 := blk_frozen H0'.out 1
   have u2 := blk_frozen H0'.out 2
   have u3 := blk_frozen H0'.out 3
   have u4 := blk_frozen H0'.out 4
   clear hl' ho3 k3 r3
   go_wp2_with (fail)
   refine (leftO_ w _ g (some (c0 :: r0)) HS'.out).mono ?_
   rintro e w3 ⟨rfl, rfl⟩
   have p9 : (0 : Int) < leftO (some (c0 :: r0)) := by simp only [leftO, List.length_cons]; omega
   go_wp2_with (fail)
   refine bodyPost_ret (results_ct rfl _ _ w.heap.size 40 #[.int .i64 0, .string ⟨#[]⟩, .int .i64 0, .int .i64 0, .slice none 0 0] (0, 0) _ rfl (set5 H0'.out _ _ _ _ _) Try.underlying40 rfl (by kernel_rfl)) rfl ?_
   unfold GetQ
   rw [HE.out]
   exact ⟨_, rfl, Kd.R_nil _ _ _ _ _, below_set5 HB'.out _ _ _ _ _⟩
  | nil =>
   cases hm : mayB x with
   | false =>
    have HE := Aside0.mk (get_bad hr hm)
    have HM := Aside0.mk hm
    rw [hr] at hc
    have HCC := Aside0.mk hc
    clear hc hr hm
    go_wp2_with (fail)
    refine HCC.out.mono ?_
    rintro e w' ⟨q3, rfl, ho3, hl'⟩
    obtain ⟨B3, e3, rfl, k3, r3⟩ := Kd.R_reads ho3
    have HT' := Aside0.mk (show Blk (w'.alloc (.cells #[.int .i64 x.f0, .string x.f1, .int .i64 x.f2, .int .i64 x.f3, .slice B3 x.f4.length e3] 40)) w'.heap.size 40 #[.int .i64 x.f0, .string x.f1, .int .i64 x.f2, .int .i64 x.f3, .slice B3 x.f4.length e3] from blk_new _ _)
    have HO3 := Aside0.mk (Kd.R_alloc ho3 (.cells #[.int .i64 x.f0, .string x.f1, .int .i64 x.f2, .int .i64 x.f3, .slice B3 x.f4.length e3] 40))
    have HS' := Aside0.mk (hl'.1.below (below_alloc (Below.refl _ _) (.cells #[.int .i64 x.f0, .string x.f1, .int .i64 x.f2, .int .i64 x.f3, .slice B3 x.f4.length e3] 40)))
    have H0' := Aside0.mk ((H1.out.keep hl'.2.2 (by have := HG.out; omega)).alloc (.cells #[.int .i64 x.f0, .string x.f1, .int .i64 x.f2, .int .i64 x.f3, .slice B3 x.f4.length e3] 40))
    have HB' := Aside0.mk (below_alloc hl'.2.1 (.cells #[.int .i64 x.f0, .string x.f1, .int .i64 x.f2, .int .i64 x.f3, .slice B3 x.f4.length e3] 40))
    have HCK := Aside0.mk (check_c x B3 e3 (w'.alloc (.cells #[.int .i64 x.f0, .string x.f1, .int .i64 x.f2, .int .i64 x.f3, .slice B3 x.f4.length e3] 40)) (Kd.C_alloc r3 _) k3)
    have HR3 := Aside0.mk (And.intro k3 (Kd.C_alloc r3 (.cells #[.int .i64 x.f0, .string x.f1, .int .i64 x.f2, .int .i64 x.f3, .slice B3 x.f4.length e3] 40)))
    have x0 := HT'.out.cell 0
    have x1 := HT'.out.cell 1
    have x2 := HT'.out.cell 2
    have x3 := HT'.out.cell 3
    have x4 := HT'.out.cell 4
    simp only [List.getElem?_toArray, List.getElem?_cons_zero, List.getElem?_cons_succ] at x0 x1 x2 x3 x4
    have z0 := H0'.out.cell 0
    have z1 := H0'.out.cell 1
    have z2 := H0'.out.cell 2
    have z3 := H0'.out.cell 3
    have z4 := H0'.out.cell 4
    simp only [List.getElem?_toArray, List.getElem?_cons_zero, List.getElem?_cons_succ] at z0 z1 z2 z3 z4
    have u0 := blk_frozen H0'.out 0
    have u1 := blk_frozen H0'.out 1
    have u2 := blk_frozen H0'.out 2
    have u3 := blk_frozen H0'.out 3
    have u4 := blk_frozen H0'.out 4
    clear hl' ho3 k3 r3
    go_wp2_with (fail)
    refine (leftO_ w _ g (some []) HS'.out).mono ?_
    rintro e w3 ⟨rfl, rfl⟩
    have p9 : leftO (some []) = 0 := rfl
    rw [p9]
    go_wp2_with (fail)
    refine HCK.out.mono ?_
    rw [HM.out, if_neg (by decide)]
    rintro e w2 ⟨rfl, hb⟩
    have H0'' := Aside0.mk (H0'.out.below hb)
    have HT'' := Aside0.mk (HT'.out.below hb)
    have HO3' := Aside0.mk (Kd.R_below HO3.out hb)
    have HB'' := Aside0.mk (below_step HB'.out hb)
    clear hb x0 x1 x2 x3 x4 z0 z1 z2 z3 z4 u0 u1 u2 u3 u4
    have x0 := HT''.out.cell 0
    have x1 := HT''.out.cell 1
    have x2 := HT''.out.cell 2
    have x3 := HT''.out.cell 3
    have x4 := HT''.out.cell 4
    simp only [List.getElem?_toArray, List.getElem?_cons_zero, List.getElem?_cons_succ] at x0 x1 x2 x3 x4
    have z0 := H0''.out.cell 0
    have z1 := H0''.out.cell 1
    have z2 := H0''.out.cell 2
    have z3 := H0''.out.cell 3
    have z4 := H0''.out.cell 4
    simp only [List.getElem?_toArray, List.getElem?_cons_zero, List.getElem?_cons_succ] at z0 z1 z2 z3 z4
    have u0 := blk_frozen H0''.out 0
    have u1 := blk_frozen H0''.out 1
    have u2 := blk_frozen H0''.out 2
    have u3 := blk_frozen H0''.out 3
    have u4 := blk_frozen H0''.out 4
    go_wp2_with (fail)
    refine bodyPost_ret (results_ct rfl _ _ w.heap.size 40 #[.int .i64 0, .string ⟨#[]⟩, .int .i64 0, .int .i64 0, .slice none 0 0] (0, 0) _ rfl (set5 H0''.out _ _ _ _ _) Try.underlying40 rfl (by kernel_rfl)) rfl ?_
    unfold GetQ
    rw [HE.out]
    exact ⟨_, rfl, Kd.R_nil _ _ _ _ _, below_set5 HB''.out _ _ _ _ _⟩
   | true =>
    have HE := Aside0.mk (get_ok hr hm)
    have HM := Aside0.mk hm
    rw [hr] at hc
    have HCC := Aside0.mk hc
    clear hc hr hm
    go_wp2_with (fail)
    refine HCC.out.mono ?_
    rintro e w' ⟨q3, rfl, ho3, hl'⟩
    obtain ⟨B3, e3, rfl, k3, r3⟩ := Kd.R_reads ho3
    have HT' := Aside0.mk (show Blk (w'.alloc (.cells #[.int .i64 x.f0, .string x.f1, .int .i64 x.f2, .int .i64 x.f3, .slice B3 x.f4.length e3] 40)) w'.heap.size 40 #[.int .i64 x.f0, .string x.f1, .int .i64 x.f2, .int .i64 x.f3, .slice B3 x.f4.length e3] from blk_new _ _)
    have HO3 := Aside0.mk (Kd.R_alloc ho3 (.cells #[.int .i64 x.f0, .string x.f1, .int .i64 x.f2, .int .i64 x.f3, .slice B3 x.f4.length e3] 40))
    have HS' := Aside0.mk (hl'.1.below (below_alloc (Below.refl _ _) (.cells #[.int .i64 x.f0, .string x.f1, .int .i64 x.f2, .int .i64 x.f3, .slice B3 x.f4.length e3] 40)))
    have H0' := Aside0.mk ((H1.out.keep hl'.2.2 (by have := HG.out; omega)).alloc (.cells #[.int .i64 x.f0, .string x.f1, .int .i64 x.f2, .int .i64 x.f3, .slice B3 x.f4.length e3] 40))
    have HB' := Aside0.mk (below_alloc hl'.2.1 (.cells #[.int .i64 x.f0, .string x.f1, .int .i64 x.f2, .int .i64 x.f3, .slice B3 x.f4.length e3] 40))
    have HCK := Aside0.mk (check_c x B3 e3 (w'.alloc (.cells #[.int .i64 x.f0, .string x.f1, .int .i64 x.f2, .int .i64 x.f3, .slice B3 x.f4.length e3] 40)) (Kd.C_alloc r3 _) k3)
    have HR3 := Aside0.mk (And.intro k3 (Kd.C_alloc r3 (.cells #[.int .i64 x.f0, .string x.f1, .int .i64 x.f2, .int .i64 x.f3, .slice B3 x.f4.length e3] 40)))
    have x0 := HT'.out.cell 0
    have x1 := HT'.out.cell 1
    have x2 := HT'.out.cell 2
    have x3 := HT'.out.cell 3
    have x4 := HT'.out.cell 4
    simp only [List.getElem?_toArray, List.getElem?_cons_zero, List.getElem?_cons_succ] at x0 x1 x2 x3 x4
    have z0 := H0'.out.cell 0
    have z1 := H0'.out.cell 1
    have z2 := H0'.out.cell 2
    have z3 := H0'.out.cell 3
    have z4 := H0'.out.cell 4
    simp only [List.getElem?_toArray, List.getElem?_cons_zero, List.getElem?_cons_succ] at z0 z1 z2 z3 z4
    have u0 := blk_frozen H0'.out 0
    have u1 := blk_frozen H0'.out 1
    have u2 := blk_frozen H0'.out 2
    have u3 := blk_frozen H0'.out 3
    have u4 := blk_frozen H0'.out 4
    clear hl' ho3 k3 r3
    go_wp2_with (fail)
    refine (leftO_ w _ g (some []) HS'.out).mono ?_
    rintro e w3 ⟨rfl, rfl⟩
    have p9 : leftO (some []) = 0 := rfl
    rw [p9]
    go_wp2_with (fail)
    refine HCK.out.mono ?_
    rw [HM.out, if_pos rfl]
    rintro e w2 ⟨rfl, hb⟩
    have H0'' := Aside0.mk (H0'.out.below hb)
    have HT'' := Aside0.mk (HT'.out.below hb)
    have HO3' := Aside0.mk (Kd.R_below HO3.out hb)
    have HB'' := Aside0.mk (below_step HB'.out hb)
    clear hb x0 x1 x2 x3 x4 z0 z1 z2 z3 z4 u0 u1 u2 u3 u4
    have x0 := HT''.out.cell 0
    have x1 := HT''.out.cell 1
    have x2 := HT''.out.cell 2
    have x3 := HT''.out.cell 3
    have x4 := HT''.out.cell 4
    simp only [List.getElem?_toArray, List.getElem?_cons_zero, List.getElem?_cons_succ] at x0 x1 x2 x3 x4
    have z0 := H0''.out.cell 0
    have z1 := H0''.out.cell 1
    have z2 := H0''.out.cell 2
    have z3 := H0''.out.cell 3
    have z4 := H0''.out.cell 4
    simp only [List.getElem?_toArray, List.getElem?_cons_zero, List.getElem?_cons_succ] at z0 z1 z2 z3 z4
    have u0 := blk_frozen H0''.out 0
    have u1 := blk_frozen H0''.out 1
    have u2 := blk_frozen H0''.out 2
    have u3 := blk_frozen H0''.out 3
    have u4 := blk_frozen H0''.out 4
    go_wp2_with (fail)
    refine bodyPost_ret (results_ct rfl _ _ w.heap.size 40 #[.int .i64 x.f0, .string x.f1, .int .i64 x.f2, .int .i64 x.f3, .slice B3 x.f4.length e3] (0, 0) _ rfl (set5 H0''.out _ _ _ _ _) Try.underlying40 rfl (by kernel_rfl)) rfl ?_
    unfold GetQ
    rw [HE.out]
    exact ⟨_, rfl, r_set5 (q := w.heap.size) HO3'.out (by have := HB1.out.size; have := HG.out; have := HS.out.blk.2.1; omega) _ _ _ _ _, below_set5 HB''.out _ _ _ _ _⟩
end Go.Proofs.Ytgdpabedlghiaaa.Scope
/- What is read is short, and no more nodes than bytes. -/
namespace Go.Proofs.Ytgdpabedlghiaaa.Scope
set_option linter.unusedVariables false
set_option linter.unusedSimpArgs false
open Go.RowKit Go.Proofs.Ytgdpabedlghiaaa.Base Go.Proofs.Ytgdpabedlghiaaa.TlvPlain Go.Proofs.Ytgdpabedlghiaaa.Lo Go.Proofs.Ytgdpabedlghiaaa.RdPlain Go.Proofs.YtgdpabedlghiaaaW.PrintWords Go.Proofs.Ytgdpabedlghiaaa.PZ Go.Proofs.Ytgdpabedlghiaaa.Aid
mutual
theorem nodes_put : ∀ x : S40, nodes x ≤ (putS x).length
 | ⟨op, nm, fr, to_, kids⟩ => by
  have h := nodes_putL kids
  rw [nodes, putS, List.length_cons, List.length_append]
  omega
theorem nodes_putL : ∀ ks : List S40, nodesL ks ≤ (putL ks).length
 | [] => by rw [nodesL]; exact Nat.zero_le _
 | k :: ks => by
  have h1 := nodes_put k
  have h2 := nodes_putL ks
  rw [nodesL, putL, List.length_append]
  omega
end
theorem str_size (l : List Int) : (strOfNums l).size = l.length := by
 have h := strOfNums_data l
 have : (strOfNums l).size = (strOfNums l).data.size := rfl
 rw [this, ← Array.length_toList, h, List.length_map]
theorem takeO_le (st : Option (List Int)) (n : Int) (h : 0 ≤ n) : ((takeO st n).1.length : Int) ≤ n := by
 unfold takeO
 split
 ·split
  ·rw [List.length_take]; omega
  ·simpa using h
 ·simpa using h
theorem text_le (st : Option (List Int)) (hu : ∀ bs, st = some bs → U8 bs) (m : Int) (hm : 0 ≤ m) : ((textO st m).1.length : Int) ≤ m := by
 unfold textO
 by_cases h : m < 0 ∨ (numO st).1 > m
 ·have : countO st m = (0, none) := by unfold countO; rw [if_pos h]
  rw [this]
  have := takeO_le none 0 (Int.le_refl _)
  show ((takeO none 0).1.length : Int) ≤ m
  omega
 ·have : countO st m = numO st := by unfold countO; rw [if_neg h]
  rw [this]
  have := takeO_le (numO st).2 (numO st).1 (numO_range hu).1
  omega
theorem head_short (op : Int) (st : Option (List Int)) (hu : ∀ bs, st = some bs → U8 bs) : (headR op st).1.1.size ≤ 100 := by
 unfold headR
 split
 ·show (strOfNums (textO st 16).1).size ≤ 100
  rw [str_size]
  have := text_le st hu 16 (by decide)
  omega
 ·split
  ·exact Nat.zero_le _
  ·split <;> exact Nat.zero_le _
theorem readK_all {f : Option (List Int) → Option (S40 × List Int)} {p : S40 → Prop} (hp : ∀ b x r, U8 b → f (some b) = some (x, r) → p x ∧ U8 r) (hf : f none = none) : ∀ (n : Nat) (st : Option (List Int)) (ks : List S40) (s : List Int), (∀ bs, st = some bs → U8 bs) → readK f n st = some (ks, some s) → ∀ k ∈ ks, p k
 | 0, st, ks, s, hu, h => by
  rw [readK] at h
  simp only [Option.some.injEq, Prod.mk.injEq] at h
  intro k hk
  rw [← h.1] at hk
  cases hk
 | n + 1, st, ks, s, hu, h => by
  rw [readK] at h
  cases st with
  | none => rw [hf] at h; cases h
  | some b =>
   cases hr : f (some b) with
   | none => rw [hr] at h; cases h
   | some q =>
    obtain ⟨x, r⟩ := q
    rw [hr] at h
    dsimp only at h
    obtain ⟨h1, h2⟩ := hp b x r (hu b rfl) hr
    cases hk : readK f n (some r) with
    | none => rw [hk] at h; cases h
    | some q =>
     obtain ⟨l, s'⟩ := q
     rw [hk] at h
     simp only [Option.some.injEq, Prod.mk.injEq] at h
     obtain ⟨rfl, rfl⟩ := h
     intro k hkm
     rcases List.mem_cons.1 hkm with rfl | hkm
     ·exact h1
     ·exact readK_all hp hf n (some r) l s (fun bs e => by cases e; exact h2) hk k hkm
theorem shortL_of : ∀ ks : List S40, (∀ k ∈ ks, short k) → shortL ks
 | [], _ => by rw [shortL]; trivial
 | k :: ks, h => by rw [shortL]; exact ⟨h k List.mem_cons_self, shortL_of ks (fun x hx => h x (List.mem_cons_of_mem _ hx))⟩
theorem read_short : ∀ (d : Nat) (b : List Int) (x : S40) (r : List Int), U8 b → readS d (some b) = some (x, r) → short x ∧ U8 r := by
 intro d
 induction d with
 | zero => intro b x r _ h; cases h
 | succ d ih =>
  intro b x r hu h
  have hb := read_back (d + 1) b x r hu h
  refine ⟨?_, hb.2⟩
  rw [readS] at h
  cases b with
  | nil => simp [takeO] at h
  | cons c b =>
   have t : takeO (some (c :: b)) 1 = ([c], some b) := by
    simp only [takeO]
    rw [if_pos (by rw [List.length_cons]; omega)]
    rfl
   rw [t] at h
   simp only [List.getD_cons_zero] at h
   have hh := head_short c (some b) (fun bs e => by cases e; exact hu.tail)
   obtain ⟨q, hq⟩ : ∃ q, headR c (some b) = q := ⟨_, rfl⟩
   obtain ⟨⟨nm, fr, to_, n⟩, s⟩ := q
   rw [hq] at h hh
   dsimp only at h hh
   have hs : ∀ bs, s = some bs → U8 bs := fun bs e => by
    subst e
    exact (head_back hu.tail hq).1
   cases hk : readK (readS d) n.toNat s with
   | none => rw [hk] at h; cases h
   | some q =>
    obtain ⟨ks, s2⟩ := q
    rw [hk] at h
    cases s2 with
    | none => cases h
    | some s2 =>
     simp only [Option.some.injEq, Prod.mk.injEq] at h
     obtain ⟨rfl, rfl⟩ := h
     rw [short]
     exact ⟨hh, shortL_of ks (readK_all (p := short) (fun b x r hu hr => ih b x r hu hr) (by cases d with | zero => rfl | succ d => rw [readS]; simp [takeO]) _ s ks s2 hs hk)⟩
theorem read_nodes {d : Nat} {b : List Int} {x : S40} {r : List Int} (hu : U8 b) (h : readS d (some b) = some (x, r)) : nodes x ≤ b.length := by
 have h1 := (read_back d b x r hu h).1
 have h2 := nodes_put x
 rw [h1, List.length_append]
 omega
end Go.Proofs.Ytgdpabedlghiaaa.Scope
/- hanaperref20.Get walked: which scope bytes are. -/
namespace Go.Proofs.Ytgdpabedlghiaaa.Scope
set_option linter.unusedVariables false
set_option linter.unusedSimpArgs false
open Go.RowKit Go.Proofs.Ytgdpabedlghiaaa.Base Go.Proofs.Ytgdpabedlghiaaa.TlvPlain Go.Proofs.Ytgdpabedlghiaaa.Lo Go.Proofs.Ytgdpabedlghiaaa.RdPlain Go.Proofs.Ytgdpabedlghiaaa.Aid Go.Proofs.Ytgdpabedlghiaaa.PZ Go.Proofs.YtgdpabedlghiaaaW.PrintWords Go.Proofs.YtgdpabedlghiaaaW.PrintLast Go.Proofs.YtgdpabedlghiaaaW.PrintMore
theorem rmay_big (x : S40) (hs : short x) (hN : nodes x ≤ 1000000) (B : Option Addr) (d : Nat) (w : World) (hx : Kd.C k40 w B x.f4.length x.f4) (hd : x.f4.length ≤ d) : Calls Try.prog 68 #[.agg #[.int .i64 x.f0, .string x.f1, .int .i64 x.f2, .int .i64 x.f3, .slice B x.f4.length d]] w fun e w' => e = .returned (.bool (mayB x)) ∧ Below w.heap.size w w' := by
 obtain ⟨k, h⟩ := (May_big x hs hN).rounds
 exact hanaperref20_May.calls k x.f0 x.f1 x.f2 x.f3 B d x.f4 _ w hx hd h
set_option maxHeartbeats 8000000 in
set_option maxRecDepth 100000 in
theorem rget_c (w : World) (A : Option Addr) (c : Nat) (b : List Int) (hr : Rb w A b) (hc : b.length ≤ c) (hl : b.length ≤ 1000000) (hu : U8 b) :
  Calls Try.prog 51 #[.slice A b.length c] w (GetQ w b) := by
 have HR := Aside0.mk hr
 have HC := Aside0.mk hc
 have HL := Aside0.mk hl
 have HU := Aside0.mk hu
 have HB := Aside0.mk (below_alloc (Below.refl w.heap.size w) (.cells #[.int .i64 0, .string ⟨#[]⟩, .int .i64 0, .int .i64 0, .slice none 0 0] 40))
 have H0 := Aside0.mk (show Blk (w.alloc (.cells #[.int .i64 0, .string ⟨#[]⟩, .int .i64 0, .int .i64 0, .slice none 0 0] 40)) w.heap.size 40 #[.int .i64 0, .string ⟨#[]⟩, .int .i64 0, .int .i64 0, .slice none 0 0] from blk_new _ _)
 have hu40 := Try.underlying40
 have hu115 := Try.underlying115
 clear hr hl hu hc
 go_enter Try.func51, Try.ntmps51
 go_wp2_with (fail)
 refine (copy_c A c b _ (Kd.C_below HR.out HB.out) HC.out (by have := HL.out; omega)).mono ?_
 rintro e w5 ⟨v, rfl, ho, hb⟩
 obtain ⟨A5, c5, rfl, hl5, hr5⟩ := Ob.reads ho
 have H1' := Aside0.mk (H0.out.below hb)
 have HB0 := Aside0.mk (below_step HB.out hb)
 have HLT5 := Aside0.mk (show ∀ ad, A5 = some ad → ad.block < w5.heap.size from fun ad e => Kd.R_lt ho ad.block (by rw [e]; rfl))
 have HR5 := Aside0.mk hr5
 have HL5 := Aside0.mk hl5
 clear hb ho hr5 hl5 HR
 go_upto_region 2 with (fail)
 obtain ⟨w1, hw1⟩ : ∃ x, w5.alloc (.cells #[.slice A5 b.length c5, .bool false] 115) = x := ⟨_, rfl⟩
 obtain ⟨g, hg⟩ : ∃ x, w5.heap.size = x := ⟨_, rfl⟩
 have HG := Aside0.mk (show w.heap.size + 1 ≤ g by have := HB0.out.size; have := H1'.out.lt; omega)
 have HS := Aside0.mk (show Rf.RfO w w1 g (some b) by
  rw [← hw1, ← hg]
  exact ⟨HB0.out.size, A5, c5, blk_new _ _, HL5.out, Kd.C_alloc HR5.out _, (by have := HL.out; omega), HU.out, HLT5.out⟩)
 have HB1 := Aside0.mk (show Below w.heap.size w w1 by rw [← hw1]; exact below_alloc HB0.out _)
 have H1 := Aside0.mk (show Blk w1 w.heap.size 40 #[.int .i64 0, .string ⟨#[]⟩, .int .i64 0, .int .i64 0, .slice none 0 0] by rw [← hw1]; exact H1'.out.alloc _)
 rw [hw1, hg]
 clear hw1 hg HB0 H1' HR5 HL5 HLT5
 have hc := rread_c 8 (by decide) w w1 g (some b) HS.out HB1.out
 cases hr : readS 8 (some b) with
 | none =>
  rw [hr] at hc
  have HCC := Aside0.mk hc
  have HE := Aside0.mk (get_no hr)
  clear hc hr
  go_wp2_with (fail)
  refine HCC.out.mono ?_
  rintro e w' ⟨x, q3, st, rfl, ho3, hl', hst⟩
  obtain rfl := (show st = none from hst)
  obtain ⟨B3, e3, rfl⟩ := Kd.R_slice ho3
  have HF := Aside0.mk ((hl'.1.below (below_alloc (Below.refl _ _) (.cells #[.int .i64 x.f0, .string x.f1, .int .i64 x.f2, .int .i64 x.f3, .slice B3 x.f4.length e3] 40))).fail)
  have hf1 := HF.out.1
  have hf2 := HF.out.2
  simp only [Option.isSome_none, Bool.not_false] at hf1
  have H0' := Aside0.mk ((H1.out.keep hl'.2.2 (by have := HG.out; omega)).alloc (.cells #[.int .i64 x.f0, .string x.f1, .int .i64 x.f2, .int .i64 x.f3, .slice B3 x.f4.length e3] 40))
  have HB' := Aside0.mk (below_alloc hl'.2.1 (.cells #[.int .i64 x.f0, .string x.f1, .int .i64 x.f2, .int .i64 x.f3, .slice B3 x.f4.length e3] 40))
  have z0 := H0'.out.cell 0
  have z1 := H0'.out.cell 1
  have z2 := H0'.out.cell 2
  have z3 := H0'.out.cell 3
  have z4 := H0'.out.cell 4
  simp only [List.getElem?_toArray, List.getElem?_cons_zero, List.getElem?_cons_succ] at z0 z1 z2 z3 z4
  have u0 := blk_frozen H0'.out 0
  have u1 := blk_frozen H0'.out 1
  have u2 := blk_frozen H0'.out 2
  have u3 := blk_frozen H0'.out 3
  have u4 := blk_frozen H0'.out 4
  clear hl' ho3 hst
  go_wp2_with (fail)
  refine bodyPost_ret (results_ct rfl _ _ w.heap.size 40 #[.int .i64 0, .string ⟨#[]⟩, .int .i64 0, .int .i64 0, .slice none 0 0] (0, 0) _ rfl (set5 H0'.out _ _ _ _ _) Try.underlying40 rfl (by kernel_rfl)) rfl ?_
  unfold GetQ
  rw [HE.out]
  exact ⟨_, rfl, Kd.R_nil _ _ _ _ _, below_set5 HB'.out _ _ _ _ _⟩
 | some p =>
  obtain ⟨x, r'⟩ := p
  have HSX := Aside0.mk (And.intro (read_short 8 b x r' HU.out hr).1 (show nodes x ≤ 1000000 from Nat.le_trans (read_nodes HU.out hr) HL.out))
  cases r' with
  | cons c0 r0 =>
   have HE := Aside0.mk (get_left hr)
   rw [hr] at hc
   have HCC := Aside0.mk hc
   clear hc hr
   go_wp2_with (fail)
   refine HCC.out.mono ?_
   rintro e w' ⟨y, q3, st, rfl, ho3, hl', hst⟩
   obtain ⟨rfl, rfl⟩ := (show y = x ∧ st = some (c0 :: r0) from hst)
   obtain ⟨B3, e3, rfl, k3, r3⟩ := Kd.R_reads ho3
   have HS' := Aside0.mk (hl'.1.below (below_alloc (Below.refl _ _) (.cells #[.int .i64 y.f0, .string y.f1, .int .i64 y.f2, .int .i64 y.f3, .slice B3 y.f4.length e3] 40)))
   have hf1 := HS'.out.fail.1
   have hf2 := HS'.out.fail.2
   simp only [Option.isSome_some, Bool.not_true] at hf1
   obtain ⟨A7, c7, hb7, _, _⟩ := HS'.out.bytes
   have HT' := Aside0.mk (show Blk (w'.alloc (.cells #[.int .i64 y.f0, .string y.f1, .int .i64 y.f2, .int .i64 y.f3, .slice B3 y.f4.length e3] 40)) w'.heap.size 40 #[.int .i64 y.f0, .string y.f1, .int .i64 y.f2, .int .i64 y.f3, .slice B3 y.f4.length e3] from blk_new _ _)
   have HO3 := Aside0.mk (Kd.R_alloc ho3 (.cells #[.int .i64 y.f0, .string y.f1, .int .i64 y.f2, .int .i64 y.f3, .slice B3 y.f4.length e3] 40))
   have H0' := Aside0.mk ((H1.out.keep hl'.2.2 (by have := HG.out; omega)).alloc (.cells #[.int .i64 y.f0, .string y.f1, .int .i64 y.f2, .int .i64 y.f3, .slice B3 y.f4.length e3] 40))
   have HB' := Aside0.mk (below_alloc hl'.2.1 (.cells #[.int .i64 y.f0, .string y.f1, .int .i64 y.f2, .int .i64 y.f3, .slice B3 y.f4.length e3] 40))
   have HCK := Aside0.mk (rmay_big y HSX.out.1 HSX.out.2 B3 e3 (w'.alloc (.cells #[.int .i64 y.f0, .string y.f1, .int .i64 y.f2, .int .i64 y.f3, .slice B3 y.f4.length e3] 40)) (Kd.C_alloc r3 _) k3)
   have x0 := HT'.out.cell 0
   have x1 := HT'.out.cell 1
   have x2 := HT'.out.cell 2
   have x3 := HT'.out.cell 3
   have x4 := HT'.out.cell 4
   simp only [List.getElem?_toArray, List.getElem?_cons_zero, List.getElem?_cons_succ] at x0 x1 x2 x3 x4
   have z0 := H0'.out.cell 0
   have z1 := H0'.out.cell 1
   have z2 := H0'.out.cell 2
   have z3 := H0'.out.cell 3
   have z4 := H0'.out.cell 4
   simp only [List.getElem?_toArray, List.getElem?_cons_zero, List.getElem?_cons_succ] at z0 z1 z2 z3 z4
   have u0 := blk_frozen H0'.out 0
   have u1 := blk_frozen H0'.out 1
   have u2 := blk_frozen H0'.out 2
   have u3 := blk_frozen H0'.out 3
   have u4 := blk_frozen H0'.out 4
   clear hl' ho3 k3 r3 hst
   have p9 : (0 : Int) < (((c0 :: r0).length : Nat) : Int) := by simp only [List.length_cons]; omega
   have p8 : decide ((0 : Int) < (((c0 :: r0).length : Nat) : Int)) = true := decide_eq_true p9
   obtain ⟨nl, hnl⟩ : ∃ n, (c0 :: r0).length = n := ⟨_, rfl⟩
   rw [hnl] at p9 p8 hb7
   have p7 : 0 < nl := by omega
   go_wp2_with (fail)
   refine bodyPost_ret (results_ct rfl _ _ w.heap.size 40 #[.int .i64 0, .string ⟨#[]⟩, .int .i64 0, .int .i64 0, .slice none 0 0] (0, 0) _ rfl (set5 H0'.out _ _ _ _ _) Try.underlying40 rfl (by kernel_rfl)) rfl ?_
   unfold GetQ
   rw [HE.out]
   exact ⟨_, rfl, Kd.R_nil _ _ _ _ _, below_set5 HB'.out _ _ _ _ _⟩
  | nil =>
   cases hm : mayB x with
   | false =>
    have HE := Aside0.mk (get_bad hr hm)
    have HM := Aside0.mk hm
    rw [hr] at hc
    have HCC := Aside0.mk hc
    clear hc hr hm
    go_wp2_with (fail)
    refine HCC.out.mono ?_
    rintro e w' ⟨y, q3, st, rfl, ho3, hl', hst⟩
    obtain ⟨rfl, rfl⟩ := (show y = x ∧ st = some [] from hst)
    obtain ⟨B3, e3, rfl, k3, r3⟩ := Kd.R_reads ho3
    have HS' := Aside0.mk (hl'.1.below (below_alloc (Below.refl _ _) (.cells #[.int .i64 y.f0, .string y.f1, .int .i64 y.f2, .int .i64 y.f3, .slice B3 y.f4.length e3] 40)))
    have hf1 := HS'.out.fail.1
    have hf2 := HS'.out.fail.2
    simp only [Option.isSome_some, Bool.not_true] at hf1
    obtain ⟨A7, c7, hb7, _, _⟩ := HS'.out.bytes
    have HT' := Aside0.mk (show Blk (w'.alloc (.cells #[.int .i64 y.f0, .string y.f1, .int .i64 y.f2, .int .i64 y.f3, .slice B3 y.f4.length e3] 40)) w'.heap.size 40 #[.int .i64 y.f0, .string y.f1, .int .i64 y.f2, .int .i64 y.f3, .slice B3 y.f4.length e3] from blk_new _ _)
    have HO3 := Aside0.mk (Kd.R_alloc ho3 (.cells #[.int .i64 y.f0, .string y.f1, .int .i64 y.f2, .int .i64 y.f3, .slice B3 y.f4.length e3] 40))
    have H0' := Aside0.mk ((H1.out.keep hl'.2.2 (by have := HG.out; omega)).alloc (.cells #[.int .i64 y.f0, .string y.f1, .int .i64 y.f2, .int .i64 y.f3, .slice B3 y.f4.length e3] 40))
    have HB' := Aside0.mk (below_alloc hl'.2.1 (.cells #[.int .i64 y.f0, .string y.f1, .int .i64 y.f2, .int .i64 y.f3, .slice B3 y.f4.length e3] 40))
    have HCK := Aside0.mk (rmay_big y HSX.out.1 HSX.out.2 B3 e3 (w'.alloc (.cells #[.int .i64 y.f0, .string y.f1, .int .i64 y.f2, .int .i64 y.f3, .slice B3 y.f4.length e3] 40)) (Kd.C_alloc r3 _) k3)
    have x0 := HT'.out.cell 0
    have x1 := HT'.out.cell 1
    have x2 := HT'.out.cell 2
    have x3 := HT'.out.cell 3
    have x4 := HT'.out.cell 4
    simp only [List.getElem?_toArray, List.getElem?_cons_zero, List.getElem?_cons_succ] at x0 x1 x2 x3 x4
    have z0 := H0'.out.cell 0
    have z1 := H0'.out.cell 1
    have z2 := H0'.out.cell 2
    have z3 := H0'.out.cell 3
    have z4 := H0'.out.cell 4
    simp only [List.getElem?_toArray, List.getElem?_cons_zero, List.getElem?_cons_succ] at z0 z1 z2 z3 z4
    have u0 := blk_frozen H0'.out 0
    have u1 := blk_frozen H0'.out 1
    have u2 := blk_frozen H0'.out 2
    have u3 := blk_frozen H0'.out 3
    have u4 := blk_frozen H0'.out 4
    clear hl' ho3 k3 r3 hst
    go_wp2_with (fail)
    refine HCK.out.mono ?_
    rw [HM.out]
    rintro e w2 ⟨rfl, hb⟩
    have H0'' := Aside0.mk (H0'.out.below hb)
    have HT'' := Aside0.mk (HT'.out.below hb)
    have HO3' := Aside0.mk (Kd.R_below HO3.out hb)
    have HB'' := Aside0.mk (below_step HB'.out hb)
    clear hb x0 x1 x2 x3 x4 z0 z1 z2 z3 z4 u0 u1 u2 u3 u4
    have x0 := HT''.out.cell 0
    have x1 := HT''.out.cell 1
    have x2 := HT''.out.cell 2
    have x3 := HT''.out.cell 3
    have x4 := HT''.out.cell 4
    simp only [List.getElem?_toArray, List.getElem?_cons_zero, List.getElem?_cons_succ] at x0 x1 x2 x3 x4
    have z0 := H0''.out.cell 0
    have z1 := H0''.out.cell 1
    have z2 := H0''.out.cell 2
    have z3 := H0''.out.cell 3
    have z4 := H0''.out.cell 4
    simp only [List.getElem?_toArray, List.getElem?_cons_zero, List.getElem?_cons_succ] at z0 z1 z2 z3 z4
    have u0 := blk_frozen H0''.out 0
    have u1 := blk_frozen H0''.out 1
    have u2 := blk_frozen H0''.out 2
    have u3 := blk_frozen H0''.out 3
    have u4 := blk_frozen H0''.out 4
    go_wp2_with (fail)
    refine bodyPost_ret (results_ct rfl _ _ w.heap.size 40 #[.int .i64 0, .string ⟨#[]⟩, .int .i64 0, .int .i64 0, .slice none 0 0] (0, 0) _ rfl (set5 H0''.out _ _ _ _ _) Try.underlying40 rfl (by kernel_rfl)) rfl ?_
    unfold GetQ
    rw [HE.out]
    exact ⟨_, rfl, Kd.R_nil _ _ _ _ _, below_set5 HB''.out _ _ _ _ _⟩
   | true =>
    have HE := Aside0.mk (get_ok hr hm)
    have HM := Aside0.mk hm
    rw [hr] at hc
    have HCC := Aside0.mk hc
    clear hc hr hm
    go_wp2_with (fail)
    refine HCC.out.mono ?_
    rintro e w' ⟨y, q3, st, rfl, ho3, hl', hst⟩
    obtain ⟨rfl, rfl⟩ := (show y = x ∧ st = some [] from hst)
    obtain ⟨B3, e3, rfl, k3, r3⟩ := Kd.R_reads ho3
    have HS' := Aside0.mk (hl'.1.below (below_alloc (Below.refl _ _) (.cells #[.int .i64 y.f0, .string y.f1, .int .i64 y.f2, .int .i64 y.f3, .slice B3 y.f4.length e3] 40)))
    have hf1 := HS'.out.fail.1
    have hf2 := HS'.out.fail.2
    simp only [Option.isSome_some, Bool.not_true] at hf1
    obtain ⟨A7, c7, hb7, _, _⟩ := HS'.out.bytes
    have HT' := Aside0.mk (show Blk (w'.alloc (.cells #[.int .i64 y.f0, .string y.f1, .int .i64 y.f2, .int .i64 y.f3, .slice B3 y.f4.length e3] 40)) w'.heap.size 40 #[.int .i64 y.f0, .string y.f1, .int .i64 y.f2, .int .i64 y.f3, .slice B3 y.f4.length e3] from blk_new _ _)
    have HO3 := Aside0.mk (Kd.R_alloc ho3 (.cells #[.int .i64 y.f0, .string y.f1, .int .i64 y.f2, .int .i64 y.f3, .slice B3 y.f4.length e3] 40))
    have H0' := Aside0.mk ((H1.out.keep hl'.2.2 (by have := HG.out; omega)).alloc (.cells #[.int .i64 y.f0, .string y.f1, .int .i64 y.f2, .int .i64 y.f3, .slice B3 y.f4.length e3] 40))
    have HB' := Aside0.mk (below_alloc hl'.2.1 (.cells #[.int .i64 y.f0, .string y.f1, .int .i64 y.f2, .int .i64 y.f3, .slice B3 y.f4.length e3] 40))
    have HCK := Aside0.mk (rmay_big y HSX.out.1 HSX.out.2 B3 e3 (w'.alloc (.cells #[.int .i64 y.f0, .string y.f1, .int .i64 y.f2, .int .i64 y.f3, .slice B3 y.f4.length e3] 40)) (Kd.C_alloc r3 _) k3)
    have x0 := HT'.out.cell 0
    have x1 := HT'.out.cell 1
    have x2 := HT'.out.cell 2
    have x3 := HT'.out.cell 3
    have x4 := HT'.out.cell 4
    simp only [List.getElem?_toArray, List.getElem?_cons_zero, List.getElem?_cons_succ] at x0 x1 x2 x3 x4
    have z0 := H0'.out.cell 0
    have z1 := H0'.out.cell 1
    have z2 := H0'.out.cell 2
    have z3 := H0'.out.cell 3
    have z4 := H0'.out.cell 4
    simp only [List.getElem?_toArray, List.getElem?_cons_zero, List.getElem?_cons_succ] at z0 z1 z2 z3 z4
    have u0 := blk_frozen H0'.out 0
    have u1 := blk_frozen H0'.out 1
    have u2 := blk_frozen H0'.out 2
    have u3 := blk_frozen H0'.out 3
    have u4 := blk_frozen H0'.out 4
    clear hl' ho3 k3 r3 hst
    go_wp2_with (fail)
    refine HCK.out.mono ?_
    rw [HM.out]
    rintro e w2 ⟨rfl, hb⟩
    have H0'' := Aside0.mk (H0'.out.below hb)
    have HT'' := Aside0.mk (HT'.out.below hb)
    have HO3' := Aside0.mk (Kd.R_below HO3.out hb)
    have HB'' := Aside0.mk (below_step HB'.out hb)
    clear hb x0 x1 x2 x3 x4 z0 z1 z2 z3 z4 u0 u1 u2 u3 u4
    have x0 := HT''.out.cell 0
    have x1 := HT''.out.cell 1
    have x2 := HT''.out.cell 2
    have x3 := HT''.out.cell 3
    have x4 := HT''.out.cell 4
    simp only [List.getElem?_toArray, List.getElem?_cons_zero, List.getElem?_cons_succ] at x0 x1 x2 x3 x4
    have z0 := H0''.out.cell 0
    have z1 := H0''.out.cell 1
    have z2 := H0''.out.cell 2
    have z3 := H0''.out.cell 3
    have z4 := H0''.out.cell 4
    simp only [List.getElem?_toArray, List.getElem?_cons_zero, List.getElem?_cons_succ] at z0 z1 z2 z3 z4
    have u0 := blk_frozen H0''.out 0
    have u1 := blk_frozen H0''.out 1
    have u2 := blk_frozen H0''.out 2
    have u3 := blk_frozen H0''.out 3
    have u4 := blk_frozen H0''.out 4
    go_wp2_with (fail)
    refine bodyPost_ret (results_ct rfl _ _ w.heap.size 40 #[.int .i64 y.f0, .string y.f1, .int .i64 y.f2, .int .i64 y.f3, .slice B3 y.f4.length e3] (0, 0) _ rfl (set5 H0''.out _ _ _ _ _) Try.underlying40 rfl (by kernel_rfl)) rfl ?_
    unfold GetQ
    rw [HE.out]
    exact ⟨_, rfl, r_set5 (q := w.heap.size) HO3'.out (by have := HB1.out.size; have := HG.out; have := HS.out.blk.2.1; omega) _ _ _ _ _, below_set5 HB''.out _ _ _ _ _⟩
end Go.Proofs.Ytgdpabedlghiaaa.Scope
-- printed for this claim by a program (pall.sh)
-- mended by fixpz.py
namespace Go.Proofs.Ytgdpabedlghiaaa.PZ
open Go.RowKit Go.Proofs.YtgdpabedlghiaaaW.PrintWords Go.Proofs.YtgdpabedlghiaaaW.PrintLast Go.Proofs.YtgdpabedlghiaaaW.PrintMore
attribute [local go_sem] max2_int min2_int max_two min_two max_three min_three max_four min_four   -- for this text's walks alone
set_option linter.unusedVariables false
set_option linter.unusedSimpArgs false

/-! ### hanaperref20_Same: function 52 -/
mutual
def hanaperref20_Same.j0 : Nat → Bool → Int → ByteArray → Int → Int → List (S40) → Int → ByteArray → Int → Int → List (S40) → Option (Bool)
 | 0, _, _, _, _, _, _, _, _, _, _, _ => none
 | k + 1, x40, x102000, x102001, x102002, x102003, x102004, x103000, x103001, x103002, x103003, x103004 => if x40 = true then (some false) else (hanaperref20_Same.l0 k 0 x102000 x102001 x102002 x102003 x102004 x103000 x103001 x103002 x103003 x103004)
def hanaperref20_Same.l0 : Nat → Int → Int → ByteArray → Int → Int → List (S40) → Int → ByteArray → Int → Int → List (S40) → Option (Bool)
 | 0, _, _, _, _, _, _, _, _, _, _, _ => none
 | k + 1, x5, x102000, x102001, x102002, x102003, x102004, x103000, x103001, x103002, x103003, x103004 => if x5 < (x102004.length : Int) then (if 0 ≤ x5 then (if x5 < (x103004.length : Int) then ((hanaperref20_Same.f k ((rd_T40 x102004 x5).f0) ((rd_T40 x102004 x5).f1) ((rd_T40 x102004 x5).f2) ((rd_T40 x102004 x5).f3) ((rd_T40 x102004 x5).f4) ((rd_T40 x103004 x5).f0) ((rd_T40 x103004 x5).f1) ((rd_T40 x103004 x5).f2) ((rd_T40 x103004 x5).f3) ((rd_T40 x103004 x5).f4)).bind fun t105 => (if t105 = true then (hanaperref20_Same.l0 k (wrap64 (x5 + 1)) x102000 x102001 x102002 x102003 x102004 x103000 x103001 x103002 x103003 x103004) else (some false))) else (none)) else (none)) else (some true)
def hanaperref20_Same.f : Nat → Int → ByteArray → Int → Int → List (S40) → Int → ByteArray → Int → Int → List (S40) → Option (Bool)
 | 0, _, _, _, _, _, _, _, _, _, _ => none
 | k + 1, a0_0, a0_1, a0_2, a0_3, l0_4, a1_0, a1_1, a1_2, a1_3, l1_4 => if a0_0 = a1_0 then (if a0_1.toList = a1_1.toList then (if a0_2 = a1_2 then (if a0_3 = a1_3 then (hanaperref20_Same.j0 k ((l0_4.length : Int) != (l1_4.length : Int)) a0_0 a0_1 a0_2 a0_3 l0_4 a1_0 a1_1 a1_2 a1_3 l1_4) else (hanaperref20_Same.j0 k true a0_0 a0_1 a0_2 a0_3 l0_4 a1_0 a1_1 a1_2 a1_3 l1_4)) else (hanaperref20_Same.j0 k true a0_0 a0_1 a0_2 a0_3 l0_4 a1_0 a1_1 a1_2 a1_3 l1_4)) else (hanaperref20_Same.j0 k true a0_0 a0_1 a0_2 a0_3 l0_4 a1_0 a1_1 a1_2 a1_3 l1_4)) else (hanaperref20_Same.j0 k true a0_0 a0_1 a0_2 a0_3 l0_4 a1_0 a1_1 a1_2 a1_3 l1_4)
end
def hanaperref20_Same.T6 : Bool × List (List Nat × List Nat) := (true, [([], []), ([0], [0]), ([], []), ([1, 2], [1, 2]), ([3], [3]), ([], []), ([5], [5]), ([], []), ([6, 7], [6, 7]), ([8], [8]), ([4, 9], [4, 9]), ([10], [10])])
def hanaperref20_Same.B6 : List Nat := [0, 1, 0, 7, 15, 0, 32, 0, 224, 480, 1023, 2047]
theorem hanaperref20_Same.tab6 : rtab .any (opsOf Try.f52 6) = hanaperref20_Same.T6 := by kernel_rfl
theorem hanaperref20_Same.bits6 : waitsOk hanaperref20_Same.T6.2 hanaperref20_Same.B6 = true := by kernel_rfl
set_option maxHeartbeats 8000000 in
set_option maxRecDepth 100000 in
theorem hanaperref20_Same.calls (k : Nat) : ∀ (a0_0 : Int) (a0_1 : ByteArray) (a0_2 : Int) (a0_3 : Int) (A0_4 : Option Addr) (c0_4 : Nat) (l0_4 : List (S40)) (a1_0 : Int) (a1_1 : ByteArray) (a1_2 : Int) (a1_3 : Int) (A1_4 : Option Addr) (c1_4 : Nat) (l1_4 : List (S40)) (r : Bool) (w : World) (hr0_4 : Kd.C k40 w A0_4 l0_4.length l0_4) (hc0_4 : l0_4.length ≤ c0_4) (hr1_4 : Kd.C k40 w A1_4 l1_4.length l1_4) (hc1_4 : l1_4.length ≤ c1_4) (h : hanaperref20_Same.f k a0_0 a0_1 a0_2 a0_3 l0_4 a1_0 a1_1 a1_2 a1_3 l1_4 = some r),
  Calls Try.prog 52 #[.agg #[.int .i64 a0_0, .string a0_1, .int .i64 a0_2, .int .i64 a0_3, .slice A0_4 l0_4.length c0_4], .agg #[.int .i64 a1_0, .string a1_1, .int .i64 a1_2, .int .i64 a1_3, .slice A1_4 l1_4.length c1_4]] w fun e w' => e = .returned (.bool r) ∧ Below w.heap.size w w' := by
 induction k using Nat.strongRecOn with
 | _ k ih =>
 intro a0_0 a0_1 a0_2 a0_3 A0_4 c0_4 l0_4 a1_0 a1_1 a1_2 a1_3 A1_4 c1_4 l1_4 r w hr0_4 hc0_4 hr1_4 hc1_4 h
 cases k with
 | zero => exact absurd h (by simp [hanaperref20_Same.f])
 | succ k =>
 simp only [hanaperref20_Same.f] at h
 have hu40 := Try.underlying40
 have HR0_4 := Aside0.mk hr0_4
 have HC0_4 := Aside0.mk hc0_4
 clear hr0_4 hc0_4
 have HR1_4 := Aside0.mk hr1_4
 have HC1_4 := Aside0.mk hc1_4
 clear hr1_4 hc1_4
 have HB := Aside0.mk (Below.refl w.heap.size w)
 have H : (if a0_0 = a1_0 then (if a0_1.toList = a1_1.toList then (if a0_2 = a1_2 then (if a0_3 = a1_3 then (hanaperref20_Same.j0 k ((l0_4.length : Int) != (l1_4.length : Int)) a0_0 a0_1 a0_2 a0_3 l0_4 a1_0 a1_1 a1_2 a1_3 l1_4) else (hanaperref20_Same.j0 k true a0_0 a0_1 a0_2 a0_3 l0_4 a1_0 a1_1 a1_2 a1_3 l1_4)) else (hanaperref20_Same.j0 k true a0_0 a0_1 a0_2 a0_3 l0_4 a1_0 a1_1 a1_2 a1_3 l1_4)) else (hanaperref20_Same.j0 k true a0_0 a0_1 a0_2 a0_3 l0_4 a1_0 a1_1 a1_2 a1_3 l1_4)) else (hanaperref20_Same.j0 k true a0_0 a0_1 a0_2 a0_3 l0_4 a1_0 a1_1 a1_2 a1_3 l1_4)) = some r := h
 clear h
 have HC3 := Aside0.mk H
 clear H
 go_enter Try.func52, Try.ntmps52
 go_upto_region 1 with (first | ((with_reducible refine gate_dst (N := 2) rfl ?_); (try (refine gate_guard (by rfl) ?_; dsimp only)); refine box_event ?hg (N := 2) ?hd (cs := #[.int .i64 a0_0, .string a0_1, .int .i64 a0_2, .int .i64 a0_3, .slice A0_4 l0_4.length c0_4]) (t := 40) ?hr ?_; (case hd => rfl); (case hg => rfl); (case hr => first | (go_simp; done) | (go_simp; rfl)); intro gb101 hg w4 hbox hb; have n0_ := Aside0.mk (below_step (by repeat (first | (with_reducible first | exact HB.out | apply below_alloc | apply pw_below_drewN | apply below_drew1) | exact HB.out)) hb); have n1_ := Aside0.mk (hbox); have n2_ := Aside0.mk ((by rw [hg]; exact (below_size (by repeat (first | (with_reducible first | exact HB.out | apply below_alloc | apply pw_below_drewN | apply below_drew1) | exact HB.out))) : w.heap.size ≤ gb101)); have n3_ := Aside0.mk ((by rw [hg]; exact (below_size (by repeat (first | (with_reducible first | exact HB.out | apply below_alloc | apply pw_below_drewN | apply below_drew1) | exact HB.out))) : w.heap.size ≤ gb101)); clear HB; have HB := n0_; have BK101 := n1_; have GW101 := n2_; have GE101 := n3_; clear n0_ n1_ n2_ n3_; clear hb hbox hg) | ((with_reducible refine gate_dst (N := 3) rfl ?_); (try (refine gate_guard (by rfl) ?_; dsimp only)); refine box_event ?hg (N := 3) ?hd (cs := #[.int .i64 a1_0, .string a1_1, .int .i64 a1_2, .int .i64 a1_3, .slice A1_4 l1_4.length c1_4]) (t := 40) ?hr ?_; (case hd => rfl); (case hg => rfl); (case hr => first | (go_simp; done) | (go_simp; rfl)); intro gb102 hg w5 hbox hb; have n0_ := Aside0.mk (blk_below (g := gb101) (o := .cells #[.int .i64 a0_0, .string a0_1, .int .i64 a0_2, .int .i64 a0_3, .slice A0_4 l0_4.length c0_4] 40 (0, 0)) (by (with_reducible repeat (first | refine blk_drewN ?_ _ | refine blk_drew ?_ | refine blk_alloc ?_ _)); exact BK101.out) hb); have n1_ := Aside0.mk (below_step (by repeat (first | (with_reducible first | exact HB.out | apply below_alloc | apply pw_below_drewN | apply below_drew1 | refine below_set ?_ GE101.out) | exact HB.out)) hb); have n2_ := Aside0.mk (hbox); have n3_ := Aside0.mk ((by rw [hg]; exact (below_size (by repeat (first | (with_reducible first | exact HB.out | apply below_alloc | apply pw_below_drewN | apply below_drew1 | refine below_set ?_ GE101.out) | exact HB.out))) : w.heap.size ≤ gb102)); have n4_ := Aside0.mk ((by rw [hg]; exact (below_size (by repeat (first | (with_reducible first | exact HB.out | apply below_alloc | apply pw_below_drewN | apply below_drew1 | refine below_set ?_ GE101.out) | exact HB.out))) : w.heap.size ≤ gb102)); have n5_ := Aside0.mk ((by rw [hg]; exact Nat.ne_of_lt (blk_lt (g := gb101) (o := .cells #[.int .i64 a0_0, .string a0_1, .int .i64 a0_2, .int .i64 a0_3, .slice A0_4 l0_4.length c0_4] 40 (0, 0)) (by (with_reducible repeat (first | refine blk_drewN ?_ _ | refine blk_drew ?_ | refine blk_alloc ?_ _)); exact BK101.out)) : gb101 ≠ gb102)); have n6_ := Aside0.mk ((by rw [hg]; exact Nat.ne_of_gt (blk_lt (g := gb101) (o := .cells #[.int .i64 a0_0, .string a0_1, .int .i64 a0_2, .int .i64 a0_3, .slice A0_4 l0_4.length c0_4] 40 (0, 0)) (by (with_reducible repeat (first | refine blk_drewN ?_ _ | refine blk_drew ?_ | refine blk_alloc ?_ _)); exact BK101.out)) : gb102 ≠ gb101)); clear BK101; clear HB; have BK101 := n0_; have HB := n1_; have BK102 := n2_; have GW102 := n3_; have GE102 := n4_; have NB101_102 := n5_; have NB102_101 := n6_; clear n0_ n1_ n2_ n3_ n4_ n5_ n6_; clear hb hbox hg))
 (try simp only [Act.put, List.setIfInBounds_toArray, List.set_cons_zero, List.set_cons_succ])
 go_cut [40] (fun v40 wc => ∃ (kq : Nat) (x40_2 : Bool), v40 = .bool x40_2 ∧ Aside0 (hanaperref20_Same.j0 kq x40_2 a0_0 a0_1 a0_2 a0_3 l0_4 a1_0 a1_1 a1_2 a1_3 l1_4 = some r) ∧ Aside0 (kq ≤ k) ∧ Aside0 (wc.heap[gb101]? = some (.cells #[.int .i64 a0_0, .string a0_1, .int .i64 a0_2, .int .i64 a0_3, (.slice A0_4 l0_4.length c0_4)] 40 (0, 0))) ∧ Aside0 (wc.heap[gb102]? = some (.cells #[.int .i64 a1_0, .string a1_1, .int .i64 a1_2, .int .i64 a1_3, (.slice A1_4 l1_4.length c1_4)] 40 (0, 0))) ∧ Aside0 (Below w.heap.size w wc))
 case first =>
  have H := HC3.out
  clear HC3
  by_cases c6 : a0_0 = a1_0
  ·rw [if_pos c6] at H
   have c6b0 : (a0_0 == a1_0) = true := beq_iff_eq.mpr c6
   have c6b1 : (a0_0 != a1_0) = false := bne_eq_false_iff_eq.mpr c6
   clear c6
   (first | rw [c6b0] | (simp only [i64_w, i32_w]; rw [c6b0]) | skip)
   by_cases c7 : a0_1.toList = a1_1.toList
   ·rw [if_pos c7] at H
    have c7b0 : (a0_1.toList == a1_1.toList) = true := beq_iff_eq.mpr c7
    have c7b1 : (a0_1.toList != a1_1.toList) = false := bne_eq_false_iff_eq.mpr c7
    clear c7
    by_cases c8 : a0_2 = a1_2
    ·rw [if_pos c8] at H
     have c8b0 : (a0_2 == a1_2) = true := beq_iff_eq.mpr c8
     have c8b1 : (a0_2 != a1_2) = false := bne_eq_false_iff_eq.mpr c8
     clear c8
     by_cases c9 : a0_3 = a1_3
     ·rw [if_pos c9] at H
      have c9b0 : (a0_3 == a1_3) = true := beq_iff_eq.mpr c9
      have c9b1 : (a0_3 != a1_3) = false := bne_eq_false_iff_eq.mpr c9
      clear c9
      have H' := Aside0.mk H
      clear H
      have hnb10 := NB101_102.out
      have hnc10 := NB102_101.out
      have hcz11_0 : w5.cell? ⟨gb101, 0, none⟩ = some (.int .i64 a0_0) := (blk_cell BK101.out 0).trans rfl
      have hcz11_1 : w5.cell? ⟨gb101, 1, none⟩ = some (.string a0_1) := (blk_cell BK101.out 1).trans rfl
      have hcz11_2 : w5.cell? ⟨gb101, 2, none⟩ = some (.int .i64 a0_2) := (blk_cell BK101.out 2).trans rfl
      have hcz11_3 : w5.cell? ⟨gb101, 3, none⟩ = some (.int .i64 a0_3) := (blk_cell BK101.out 3).trans rfl
      have hcz11_4 : w5.cell? ⟨gb101, 4, none⟩ = some (.slice A0_4 l0_4.length c0_4) := (blk_cell BK101.out 4).trans rfl
      have hfz11_0 := blk_frozen BK101.out 0
      have hfz11_1 := blk_frozen BK101.out 1
      have hfz11_2 := blk_frozen BK101.out 2
      have hfz11_3 := blk_frozen BK101.out 3
      have hfz11_4 := blk_frozen BK101.out 4
      have hcz12_0 : w5.cell? ⟨gb102, 0, none⟩ = some (.int .i64 a1_0) := (blk_cell BK102.out 0).trans rfl
      have hcz12_1 : w5.cell? ⟨gb102, 1, none⟩ = some (.string a1_1) := (blk_cell BK102.out 1).trans rfl
      have hcz12_2 : w5.cell? ⟨gb102, 2, none⟩ = some (.int .i64 a1_2) := (blk_cell BK102.out 2).trans rfl
      have hcz12_3 : w5.cell? ⟨gb102, 3, none⟩ = some (.int .i64 a1_3) := (blk_cell BK102.out 3).trans rfl
      have hcz12_4 : w5.cell? ⟨gb102, 4, none⟩ = some (.slice A1_4 l1_4.length c1_4) := (blk_cell BK102.out 4).trans rfl
      have hfz12_0 := blk_frozen BK102.out 0
      have hfz12_1 := blk_frozen BK102.out 1
      have hfz12_2 := blk_frozen BK102.out 2
      have hfz12_3 := blk_frozen BK102.out 3
      have hfz12_4 := blk_frozen BK102.out 4
      go_wp2
      go_meet
      case rel => exact ⟨_, (((l0_4.length : Int) != (l1_4.length : Int))), (by first | rfl | (simp; done) | (simp [*]; done)), H', ⟨by first | omega | exact Nat.le_refl _⟩, ⟨by (with_reducible repeat (first | refine blk_drewN ?_ _ | refine blk_drew ?_ | refine blk_alloc ?_ _)); exact BK101.out⟩, ⟨by (with_reducible repeat (first | refine blk_drewN ?_ _ | refine blk_drew ?_ | refine blk_alloc ?_ _)); exact BK102.out⟩, ⟨by repeat (first | (with_reducible first | exact HB.out | apply below_alloc | apply pw_below_drewN | apply below_drew1 | refine below_set ?_ GE101.out | refine below_set ?_ GE102.out) | exact HB.out)⟩⟩
     ·rw [if_neg c9] at H
      have c9b0 : (a0_3 == a1_3) = false := beq_eq_false_iff_ne.mpr c9
      have c9b1 : (a0_3 != a1_3) = true := bne_iff_ne.mpr c9
      have H' := Aside0.mk H
      clear H
      have hnb13 := NB101_102.out
      have hnc13 := NB102_101.out
      have hcz14_0 : w5.cell? ⟨gb101, 0, none⟩ = some (.int .i64 a0_0) := (blk_cell BK101.out 0).trans rfl
      have hcz14_1 : w5.cell? ⟨gb101, 1, none⟩ = some (.string a0_1) := (blk_cell BK101.out 1).trans rfl
      have hcz14_2 : w5.cell? ⟨gb101, 2, none⟩ = some (.int .i64 a0_2) := (blk_cell BK101.out 2).trans rfl
      have hcz14_3 : w5.cell? ⟨gb101, 3, none⟩ = some (.int .i64 a0_3) := (blk_cell BK101.out 3).trans rfl
      have hcz14_4 : w5.cell? ⟨gb101, 4, none⟩ = some (.slice A0_4 l0_4.length c0_4) := (blk_cell BK101.out 4).trans rfl
      have hfz14_0 := blk_frozen BK101.out 0
      have hfz14_1 := blk_frozen BK101.out 1
      have hfz14_2 := blk_frozen BK101.out 2
      have hfz14_3 := blk_frozen BK101.out 3
      have hfz14_4 := blk_frozen BK101.out 4
      have hcz15_0 : w5.cell? ⟨gb102, 0, none⟩ = some (.int .i64 a1_0) := (blk_cell BK102.out 0).trans rfl
      have hcz15_1 : w5.cell? ⟨gb102, 1, none⟩ = some (.string a1_1) := (blk_cell BK102.out 1).trans rfl
      have hcz15_2 : w5.cell? ⟨gb102, 2, none⟩ = some (.int .i64 a1_2) := (blk_cell BK102.out 2).trans rfl
      have hcz15_3 : w5.cell? ⟨gb102, 3, none⟩ = some (.int .i64 a1_3) := (blk_cell BK102.out 3).trans rfl
      have hcz15_4 : w5.cell? ⟨gb102, 4, none⟩ = some (.slice A1_4 l1_4.length c1_4) := (blk_cell BK102.out 4).trans rfl
      have hfz15_0 := blk_frozen BK102.out 0
      have hfz15_1 := blk_frozen BK102.out 1
      have hfz15_2 := blk_frozen BK102.out 2
      have hfz15_3 := blk_frozen BK102.out 3
      have hfz15_4 := blk_frozen BK102.out 4
      go_wp2
      go_meet
      case rel => exact ⟨_, (true), (by first | rfl | (simp; done) | (simp [*]; done)), H', ⟨by first | omega | exact Nat.le_refl _⟩, ⟨by (with_reducible repeat (first | refine blk_drewN ?_ _ | refine blk_drew ?_ | refine blk_alloc ?_ _)); exact BK101.out⟩, ⟨by (with_reducible repeat (first | refine blk_drewN ?_ _ | refine blk_drew ?_ | refine blk_alloc ?_ _)); exact BK102.out⟩, ⟨by repeat (first | (with_reducible first | exact HB.out | apply below_alloc | apply pw_below_drewN | apply below_drew1 | refine below_set ?_ GE101.out | refine below_set ?_ GE102.out) | exact HB.out)⟩⟩
    ·rw [if_neg c8] at H
     have c8b0 : (a0_2 == a1_2) = false := beq_eq_false_iff_ne.mpr c8
     have c8b1 : (a0_2 != a1_2) = true := bne_iff_ne.mpr c8
     have H' := Aside0.mk H
     clear H
     have hnb16 := NB101_102.out
     have hnc16 := NB102_101.out
     have hcz17_0 : w5.cell? ⟨gb101, 0, none⟩ = some (.int .i64 a0_0) := (blk_cell BK101.out 0).trans rfl
     have hcz17_1 : w5.cell? ⟨gb101, 1, none⟩ = some (.string a0_1) := (blk_cell BK101.out 1).trans rfl
     have hcz17_2 : w5.cell? ⟨gb101, 2, none⟩ = some (.int .i64 a0_2) := (blk_cell BK101.out 2).trans rfl
     have hcz17_3 : w5.cell? ⟨gb101, 3, none⟩ = some (.int .i64 a0_3) := (blk_cell BK101.out 3).trans rfl
     have hcz17_4 : w5.cell? ⟨gb101, 4, none⟩ = some (.slice A0_4 l0_4.length c0_4) := (blk_cell BK101.out 4).trans rfl
     have hfz17_0 := blk_frozen BK101.out 0
     have hfz17_1 := blk_frozen BK101.out 1
     have hfz17_2 := blk_frozen BK101.out 2
     have hfz17_3 := blk_frozen BK101.out 3
     have hfz17_4 := blk_frozen BK101.out 4
     have hcz18_0 : w5.cell? ⟨gb102, 0, none⟩ = some (.int .i64 a1_0) := (blk_cell BK102.out 0).trans rfl
     have hcz18_1 : w5.cell? ⟨gb102, 1, none⟩ = some (.string a1_1) := (blk_cell BK102.out 1).trans rfl
     have hcz18_2 : w5.cell? ⟨gb102, 2, none⟩ = some (.int .i64 a1_2) := (blk_cell BK102.out 2).trans rfl
     have hcz18_3 : w5.cell? ⟨gb102, 3, none⟩ = some (.int .i64 a1_3) := (blk_cell BK102.out 3).trans rfl
     have hcz18_4 : w5.cell? ⟨gb102, 4, none⟩ = some (.slice A1_4 l1_4.length c1_4) := (blk_cell BK102.out 4).trans rfl
     have hfz18_0 := blk_frozen BK102.out 0
     have hfz18_1 := blk_frozen BK102.out 1
     have hfz18_2 := blk_frozen BK102.out 2
     have hfz18_3 := blk_frozen BK102.out 3
     have hfz18_4 := blk_frozen BK102.out 4
     go_wp2
     go_meet
     case rel => exact ⟨_, (true), (by first | rfl | (simp; done) | (simp [*]; done)), H', ⟨by first | omega | exact Nat.le_refl _⟩, ⟨by (with_reducible repeat (first | refine blk_drewN ?_ _ | refine blk_drew ?_ | refine blk_alloc ?_ _)); exact BK101.out⟩, ⟨by (with_reducible repeat (first | refine blk_drewN ?_ _ | refine blk_drew ?_ | refine blk_alloc ?_ _)); exact BK102.out⟩, ⟨by repeat (first | (with_reducible first | exact HB.out | apply below_alloc | apply pw_below_drewN | apply below_drew1 | refine below_set ?_ GE101.out | refine below_set ?_ GE102.out) | exact HB.out)⟩⟩
   ·rw [if_neg c7] at H
    have c7b0 : (a0_1.toList == a1_1.toList) = false := beq_eq_false_iff_ne.mpr c7
    have c7b1 : (a0_1.toList != a1_1.toList) = true := bne_iff_ne.mpr c7
    have H' := Aside0.mk H
    clear H
    have hnb19 := NB101_102.out
    have hnc19 := NB102_101.out
    have hcz20_0 : w5.cell? ⟨gb101, 0, none⟩ = some (.int .i64 a0_0) := (blk_cell BK101.out 0).trans rfl
    have hcz20_1 : w5.cell? ⟨gb101, 1, none⟩ = some (.string a0_1) := (blk_cell BK101.out 1).trans rfl
    have hcz20_2 : w5.cell? ⟨gb101, 2, none⟩ = some (.int .i64 a0_2) := (blk_cell BK101.out 2).trans rfl
    have hcz20_3 : w5.cell? ⟨gb101, 3, none⟩ = some (.int .i64 a0_3) := (blk_cell BK101.out 3).trans rfl
    have hcz20_4 : w5.cell? ⟨gb101, 4, none⟩ = some (.slice A0_4 l0_4.length c0_4) := (blk_cell BK101.out 4).trans rfl
    have hfz20_0 := blk_frozen BK101.out 0
    have hfz20_1 := blk_frozen BK101.out 1
    have hfz20_2 := blk_frozen BK101.out 2
    have hfz20_3 := blk_frozen BK101.out 3
    have hfz20_4 := blk_frozen BK101.out 4
    have hcz21_0 : w5.cell? ⟨gb102, 0, none⟩ = some (.int .i64 a1_0) := (blk_cell BK102.out 0).trans rfl
    have hcz21_1 : w5.cell? ⟨gb102, 1, none⟩ = some (.string a1_1) := (blk_cell BK102.out 1).trans rfl
    have hcz21_2 : w5.cell? ⟨gb102, 2, none⟩ = some (.int .i64 a1_2) := (blk_cell BK102.out 2).trans rfl
    have hcz21_3 : w5.cell? ⟨gb102, 3, none⟩ = some (.int .i64 a1_3) := (blk_cell BK102.out 3).trans rfl
    have hcz21_4 : w5.cell? ⟨gb102, 4, none⟩ = some (.slice A1_4 l1_4.length c1_4) := (blk_cell BK102.out 4).trans rfl
    have hfz21_0 := blk_frozen BK102.out 0
    have hfz21_1 := blk_frozen BK102.out 1
    have hfz21_2 := blk_frozen BK102.out 2
    have hfz21_3 := blk_frozen BK102.out 3
    have hfz21_4 := blk_frozen BK102.out 4
    go_wp2
    go_meet
    case rel => exact ⟨_, (true), (by first | rfl | (simp; done) | (simp [*]; done)), H', ⟨by first | omega | exact Nat.le_refl _⟩, ⟨by (with_reducible repeat (first | refine blk_drewN ?_ _ | refine blk_drew ?_ | refine blk_alloc ?_ _)); exact BK101.out⟩, ⟨by (with_reducible repeat (first | refine blk_drewN ?_ _ | refine blk_drew ?_ | refine blk_alloc ?_ _)); exact BK102.out⟩, ⟨by repeat (first | (with_reducible first | exact HB.out | apply below_alloc | apply pw_below_drewN | apply below_drew1 | refine below_set ?_ GE101.out | refine below_set ?_ GE102.out) | exact HB.out)⟩⟩
  ·rw [if_neg c6] at H
   have c6b0 : (a0_0 == a1_0) = false := beq_eq_false_iff_ne.mpr c6
   have c6b1 : (a0_0 != a1_0) = true := bne_iff_ne.mpr c6
   (first | rw [c6b0] | (simp only [i64_w, i32_w]; rw [c6b0]) | skip)
   have H' := Aside0.mk H
   clear H
   have hnb22 := NB101_102.out
   have hnc22 := NB102_101.out
   have hcz23_0 : w5.cell? ⟨gb101, 0, none⟩ = some (.int .i64 a0_0) := (blk_cell BK101.out 0).trans rfl
   have hcz23_1 : w5.cell? ⟨gb101, 1, none⟩ = some (.string a0_1) := (blk_cell BK101.out 1).trans rfl
   have hcz23_2 : w5.cell? ⟨gb101, 2, none⟩ = some (.int .i64 a0_2) := (blk_cell BK101.out 2).trans rfl
   have hcz23_3 : w5.cell? ⟨gb101, 3, none⟩ = some (.int .i64 a0_3) := (blk_cell BK101.out 3).trans rfl
   have hcz23_4 : w5.cell? ⟨gb101, 4, none⟩ = some (.slice A0_4 l0_4.length c0_4) := (blk_cell BK101.out 4).trans rfl
   have hfz23_0 := blk_frozen BK101.out 0
   have hfz23_1 := blk_frozen BK101.out 1
   have hfz23_2 := blk_frozen BK101.out 2
   have hfz23_3 := blk_frozen BK101.out 3
   have hfz23_4 := blk_frozen BK101.out 4
   have hcz24_0 : w5.cell? ⟨gb102, 0, none⟩ = some (.int .i64 a1_0) := (blk_cell BK102.out 0).trans rfl
   have hcz24_1 : w5.cell? ⟨gb102, 1, none⟩ = some (.string a1_1) := (blk_cell BK102.out 1).trans rfl
   have hcz24_2 : w5.cell? ⟨gb102, 2, none⟩ = some (.int .i64 a1_2) := (blk_cell BK102.out 2).trans rfl
   have hcz24_3 : w5.cell? ⟨gb102, 3, none⟩ = some (.int .i64 a1_3) := (blk_cell BK102.out 3).trans rfl
   have hcz24_4 : w5.cell? ⟨gb102, 4, none⟩ = some (.slice A1_4 l1_4.length c1_4) := (blk_cell BK102.out 4).trans rfl
   have hfz24_0 := blk_frozen BK102.out 0
   have hfz24_1 := blk_frozen BK102.out 1
   have hfz24_2 := blk_frozen BK102.out 2
   have hfz24_3 := blk_frozen BK102.out 3
   have hfz24_4 := blk_frozen BK102.out 4
   go_wp2
   go_meet
   case rel => exact ⟨_, (true), (by first | rfl | (simp; done) | (simp [*]; done)), H', ⟨by first | omega | exact Nat.le_refl _⟩, ⟨by (with_reducible repeat (first | refine blk_drewN ?_ _ | refine blk_drew ?_ | refine blk_alloc ?_ _)); exact BK101.out⟩, ⟨by (with_reducible repeat (first | refine blk_drewN ?_ _ | refine blk_drew ?_ | refine blk_alloc ?_ _)); exact BK102.out⟩, ⟨by repeat (first | (with_reducible first | exact HB.out | apply below_alloc | apply pw_below_drewN | apply below_drew1 | refine below_set ?_ GE101.out | refine below_set ?_ GE102.out) | exact HB.out)⟩⟩
 case rest =>
  clear HC3
  (try clear c1);(try clear c2);(try clear p2);(try clear c5);(try clear c6);(try clear c6b0);(try clear c6b1);(try clear c7);(try clear c7b0);(try clear c7b1);(try clear c8);(try clear c8b0);(try clear c8b1);(try clear c9);(try clear c9b0);(try clear c9b1);(try clear c10);(try clear c13);(try clear c16);(try clear c19);(try clear c22);(try clear hcz11_0);(try clear hcz11_1);(try clear hcz11_2);(try clear hcz11_3);(try clear hcz11_4);(try clear hcz12_0);(try clear hcz12_1);(try clear hcz12_2);(try clear hcz12_3);(try clear hcz12_4);(try clear hcz14_0);(try clear hcz14_1);(try clear hcz14_2);(try clear hcz14_3);(try clear hcz14_4);(try clear hcz15_0);(try clear hcz15_1);(try clear hcz15_2);(try clear hcz15_3);(try clear hcz15_4);(try clear hcz17_0);(try clear hcz17_1);(try clear hcz17_2);(try clear hcz17_3);(try clear hcz17_4);(try clear hcz18_0);(try clear hcz18_1);(try clear hcz18_2);(try clear hcz18_3);(try clear hcz18_4);(try clear hcz20_0);(try clear hcz20_1);(try clear hcz20_2);(try clear hcz20_3);(try clear hcz20_4);(try clear hcz21_0);(try clear hcz21_1);(try clear hcz21_2);(try clear hcz21_3);(try clear hcz21_4);(try clear hcz23_0);(try clear hcz23_1);(try clear hcz23_2);(try clear hcz23_3);(try clear hcz23_4);(try clear hcz24_0);(try clear hcz24_1);(try clear hcz24_2);(try clear hcz24_3);(try clear hcz24_4);(try clear hfz11_0);(try clear hfz11_1);(try clear hfz11_2);(try clear hfz11_3);(try clear hfz11_4);(try clear hfz12_0);(try clear hfz12_1);(try clear hfz12_2);(try clear hfz12_3);(try clear hfz12_4);(try clear hfz14_0);(try clear hfz14_1);(try clear hfz14_2);(try clear hfz14_3);(try clear hfz14_4);(try clear hfz15_0);(try clear hfz15_1);(try clear hfz15_2);(try clear hfz15_3);(try clear hfz15_4);(try clear hfz17_0);(try clear hfz17_1);(try clear hfz17_2);(try clear hfz17_3);(try clear hfz17_4);(try clear hfz18_0);(try clear hfz18_1);(try clear hfz18_2);(try clear hfz18_3);(try clear hfz18_4);(try clear hfz20_0);(try clear hfz20_1);(try clear hfz20_2);(try clear hfz20_3);(try clear hfz20_4);(try clear hfz21_0);(try clear hfz21_1);(try clear hfz21_2);(try clear hfz21_3);(try clear hfz21_4);(try clear hfz23_0);(try clear hfz23_1);(try clear hfz23_2);(try clear hfz23_3);(try clear hfz23_4);(try clear hfz24_0);(try clear hfz24_1);(try clear hfz24_2);(try clear hfz24_3);(try clear hfz24_4)
  obtain ⟨kq, x40_2, rfl, HA, HJ2, BK101, BK102, HB⟩ := hcut
  cases kq with
  | zero => exact absurd HA.out (by simp [hanaperref20_Same.j0])
  | succ kj2 =>
   have H := HA.out
   clear HA
   simp only [hanaperref20_Same.j0] at H
   by_cases c25 : x40_2 = true
   ·subst c25
    have H1 : (some false) = some r := by rw [if_pos rfl] at H; exact H
    clear H
    have H := H1
    clear H1
    obtain rfl := Option.some.inj H
    go_wp2
    go_ret
    exact ⟨by first | rfl | (simp [errW_none, errW_some] <;> rfl) | (simp [*, errW_none, errW_some] <;> rfl), by repeat (first | (with_reducible first | exact HB.out | apply below_alloc | apply pw_below_drewN | apply below_drew1 | refine below_set ?_ GE101.out | refine below_set ?_ GE102.out) | exact HB.out)⟩
   ·replace c25 := Bool.eq_false_iff.mpr c25
    subst c25
    have H1 : (hanaperref20_Same.l0 kj2 0 a0_0 a0_1 a0_2 a0_3 l0_4 a1_0 a1_1 a1_2 a1_3 l1_4) = some r := by rw [if_neg (show ¬ (false = true) by decide)] at H; exact H
    clear H
    have H := H1
    clear H1
    have H' := Aside0.mk H
    clear H
    go_wp2
    go_loopg [5] kj2 (fun kq v5 w' => ∃ (x5_2 : Int), v5 = .int .i64 x5_2 ∧ Aside0 (hanaperref20_Same.l0 kq x5_2 a0_0 a0_1 a0_2 a0_3 l0_4 a1_0 a1_1 a1_2 a1_3 l1_4 = some r) ∧ Aside0 (kq ≤ kj2) ∧ Aside0 (w'.heap[gb101]? = some (.cells #[.int .i64 a0_0, .string a0_1, .int .i64 a0_2, .int .i64 a0_3, (.slice A0_4 l0_4.length c0_4)] 40 (0, 0))) ∧ Aside0 (w'.heap[gb102]? = some (.cells #[.int .i64 a1_0, .string a1_1, .int .i64 a1_2, .int .i64 a1_3, (.slice A1_4 l1_4.length c1_4)] 40 (0, 0))) ∧ Aside0 (Below w.heap.size w w'))
    case atStart => exact ⟨(0), (by first | rfl | (simp; done) | (simp [*]; done)), H', ⟨Nat.le_refl _⟩, ⟨by (with_reducible repeat (first | refine blk_drewN ?_ _ | refine blk_drew ?_ | refine blk_alloc ?_ _)); exact BK101.out⟩, ⟨by (with_reducible repeat (first | refine blk_drewN ?_ _ | refine blk_drew ?_ | refine blk_alloc ?_ _)); exact BK102.out⟩, ⟨by repeat (first | (with_reducible first | exact HB.out | apply below_alloc | apply pw_below_drewN | apply below_drew1 | refine below_set ?_ GE101.out | refine below_set ?_ GE102.out) | exact HB.out)⟩⟩
    case round =>
     clear H'
     (try clear c1);(try clear c2);(try clear p2);(try clear c5);(try clear c6);(try clear c6b0);(try clear c6b1);(try clear c7);(try clear c7b0);(try clear c7b1);(try clear c8);(try clear c8b0);(try clear c8b1);(try clear c9);(try clear c9b0);(try clear c9b1);(try clear c10);(try clear c13);(try clear c16);(try clear c19);(try clear c22);(try clear c25);(try clear hcz11_0);(try clear hcz11_1);(try clear hcz11_2);(try clear hcz11_3);(try clear hcz11_4);(try clear hcz12_0);(try clear hcz12_1);(try clear hcz12_2);(try clear hcz12_3);(try clear hcz12_4);(try clear hcz14_0);(try clear hcz14_1);(try clear hcz14_2);(try clear hcz14_3);(try clear hcz14_4);(try clear hcz15_0);(try clear hcz15_1);(try clear hcz15_2);(try clear hcz15_3);(try clear hcz15_4);(try clear hcz17_0);(try clear hcz17_1);(try clear hcz17_2);(try clear hcz17_3);(try clear hcz17_4);(try clear hcz18_0);(try clear hcz18_1);(try clear hcz18_2);(try clear hcz18_3);(try clear hcz18_4);(try clear hcz20_0);(try clear hcz20_1);(try clear hcz20_2);(try clear hcz20_3);(try clear hcz20_4);(try clear hcz21_0);(try clear hcz21_1);(try clear hcz21_2);(try clear hcz21_3);(try clear hcz21_4);(try clear hcz23_0);(try clear hcz23_1);(try clear hcz23_2);(try clear hcz23_3);(try clear hcz23_4);(try clear hcz24_0);(try clear hcz24_1);(try clear hcz24_2);(try clear hcz24_3);(try clear hcz24_4);(try clear hfz11_0);(try clear hfz11_1);(try clear hfz11_2);(try clear hfz11_3);(try clear hfz11_4);(try clear hfz12_0);(try clear hfz12_1);(try clear hfz12_2);(try clear hfz12_3);(try clear hfz12_4);(try clear hfz14_0);(try clear hfz14_1);(try clear hfz14_2);(try clear hfz14_3);(try clear hfz14_4);(try clear hfz15_0);(try clear hfz15_1);(try clear hfz15_2);(try clear hfz15_3);(try clear hfz15_4);(try clear hfz17_0);(try clear hfz17_1);(try clear hfz17_2);(try clear hfz17_3);(try clear hfz17_4);(try clear hfz18_0);(try clear hfz18_1);(try clear hfz18_2);(try clear hfz18_3);(try clear hfz18_4);(try clear hfz20_0);(try clear hfz20_1);(try clear hfz20_2);(try clear hfz20_3);(try clear hfz20_4);(try clear hfz21_0);(try clear hfz21_1);(try clear hfz21_2);(try clear hfz21_3);(try clear hfz21_4);(try clear hfz23_0);(try clear hfz23_1);(try clear hfz23_2);(try clear hfz23_3);(try clear hfz23_4);(try clear hfz24_0);(try clear hfz24_1);(try clear hfz24_2);(try clear hfz24_3);(try clear hfz24_4);(try clear p2)
     obtain ⟨x5_2, rfl, HA, HK2, BK101, BK102, HB⟩ := hrel
     cases gk with
     | zero => exact absurd HA.out (by simp [hanaperref20_Same.l0])
     | succ k2 =>
      have H := HA.out
      clear HA
      simp only [hanaperref20_Same.l0] at H
      by_cases c26 : x5_2 < (l0_4.length : Int)
      ·rw [if_pos c26] at H
       have c26b0 : decide (x5_2 < (l0_4.length : Int)) = true := decide_eq_true c26
       clear c26
       by_cases c27 : 0 ≤ x5_2
       ·rw [if_pos c27] at H
        have c27b0 : decide (0 ≤ x5_2) = true := decide_eq_true c27
        clear c27
        by_cases c28 : x5_2 < (l1_4.length : Int)
        ·rw [if_pos c28] at H
         have c28b0 : decide (x5_2 < (l1_4.length : Int)) = true := decide_eq_true c28
         clear c28
         replace H := Option.bind_eq_some_iff.mp H
         obtain ⟨t105, A290, H⟩ := H
         replace H : (if t105 = true then (hanaperref20_Same.l0 k2 (wrap64 (x5_2 + 1)) a0_0 a0_1 a0_2 a0_3 l0_4 a1_0 a1_1 a1_2 a1_3 l1_4) else (some false)) = some r := H
         have A29 := Aside0.mk A290
         clear A290
         by_cases c30 : t105 = true
         ·subst c30
          have H1 : (hanaperref20_Same.l0 k2 (wrap64 (x5_2 + 1)) a0_0 a0_1 a0_2 a0_3 l0_4 a1_0 a1_1 a1_2 a1_3 l1_4) = some r := by rw [if_pos rfl] at H; exact H
          clear H
          have H := H1
          clear H1
          have H' := Aside0.mk H
          clear H
          have hnb31 := NB101_102.out
          have hnc31 := NB102_101.out
          have hcz32_0 : wr.cell? ⟨gb101, 0, none⟩ = some (.int .i64 a0_0) := (blk_cell BK101.out 0).trans rfl
          have hcz32_1 : wr.cell? ⟨gb101, 1, none⟩ = some (.string a0_1) := (blk_cell BK101.out 1).trans rfl
          have hcz32_2 : wr.cell? ⟨gb101, 2, none⟩ = some (.int .i64 a0_2) := (blk_cell BK101.out 2).trans rfl
          have hcz32_3 : wr.cell? ⟨gb101, 3, none⟩ = some (.int .i64 a0_3) := (blk_cell BK101.out 3).trans rfl
          have hcz32_4 : wr.cell? ⟨gb101, 4, none⟩ = some (.slice A0_4 l0_4.length c0_4) := (blk_cell BK101.out 4).trans rfl
          have hfz32_0 := blk_frozen BK101.out 0
          have hfz32_1 := blk_frozen BK101.out 1
          have hfz32_2 := blk_frozen BK101.out 2
          have hfz32_3 := blk_frozen BK101.out 3
          have hfz32_4 := blk_frozen BK101.out 4
          try go_wp2
          have n0_ := Aside0.mk (blk_drew BK101.out)
          have n1_ := Aside0.mk (blk_drew BK102.out)
          have n2_ := Aside0.mk (below_drew1 HB.out)
          clear BK101
          clear BK102
          clear HB
          have BK101 := n0_
          have BK102 := n1_
          have HB := n2_
          clear n0_ n1_ n2_
          have p103 : 0 ≤ (x5_2 : Int) := of_decide_eq_true (by first | (with_reducible assumption) | assumption)
          have q103 : x5_2 < (l0_4.length : Int) := of_decide_eq_true (by first | (with_reducible assumption) | assumption)
          obtain ⟨ad103, A103_4, c103_4, e103, hx103_0, hx103_1, hx103_2, hx103_3, hx103_4, hl103_4, hi103_4⟩ := at_T40 HR0_4.out x5_2 p103 q103
          have hw103_4 := hx103_4
          have hw103_3 := hx103_3
          have hw103_2 := hx103_2
          have hw103_1 := hx103_1
          have hw103_0 := hx103_0
          cases e103
          replace hx103_0 := (HB.out.cell (World.block_lt_of_cell? w _ hx103_0)).trans hx103_0
          replace hx103_1 := (HB.out.cell (World.block_lt_of_cell? w _ hx103_1)).trans hx103_1
          replace hx103_2 := (HB.out.cell (World.block_lt_of_cell? w _ hx103_2)).trans hx103_2
          replace hx103_3 := (HB.out.cell (World.block_lt_of_cell? w _ hx103_3)).trans hx103_3
          replace hx103_4 := (HB.out.cell (World.block_lt_of_cell? w _ hx103_4)).trans hx103_4
          have HR103_4 := Aside0.mk hi103_4
          have HC103_4 := Aside0.mk hl103_4
          clear hi103_4 hl103_4
          replace p103 := eq_true p103
          replace q103 := eq_true q103
          have p104 : 0 ≤ (x5_2 : Int) := of_decide_eq_true (by first | (with_reducible assumption) | assumption)
          have q104 : x5_2 < (l1_4.length : Int) := of_decide_eq_true (by first | (with_reducible assumption) | assumption)
          obtain ⟨ad104, A104_4, c104_4, e104, hx104_0, hx104_1, hx104_2, hx104_3, hx104_4, hl104_4, hi104_4⟩ := at_T40 HR1_4.out x5_2 p104 q104
          have hw104_4 := hx104_4
          have hw104_3 := hx104_3
          have hw104_2 := hx104_2
          have hw104_1 := hx104_1
          have hw104_0 := hx104_0
          cases e104
          replace hx104_0 := (HB.out.cell (World.block_lt_of_cell? w _ hx104_0)).trans hx104_0
          replace hx104_1 := (HB.out.cell (World.block_lt_of_cell? w _ hx104_1)).trans hx104_1
          replace hx104_2 := (HB.out.cell (World.block_lt_of_cell? w _ hx104_2)).trans hx104_2
          replace hx104_3 := (HB.out.cell (World.block_lt_of_cell? w _ hx104_3)).trans hx104_3
          replace hx104_4 := (HB.out.cell (World.block_lt_of_cell? w _ hx104_4)).trans hx104_4
          have HR104_4 := Aside0.mk hi104_4
          have HC104_4 := Aside0.mk hl104_4
          clear hi104_4 hl104_4
          replace p104 := eq_true p104
          replace q104 := eq_true q104
          refine start_ (n := 12) (S := fun w' => w'.cell? ⟨gb101, 0, none⟩ = some (.int .i64 a0_0) ∧ w'.cell? ⟨gb101, 1, none⟩ = some (.string a0_1) ∧ w'.cell? ⟨gb101, 2, none⟩ = some (.int .i64 a0_2) ∧ w'.cell? ⟨gb101, 3, none⟩ = some (.int .i64 a0_3) ∧ w'.cell? ⟨gb101, 4, none⟩ = some (.slice (some ad103) l0_4.length c0_4) ∧ w'.cell? ⟨gb102, 0, none⟩ = some (.int .i64 a1_0) ∧ w'.cell? ⟨gb102, 1, none⟩ = some (.string a1_1) ∧ w'.cell? ⟨gb102, 2, none⟩ = some (.int .i64 a1_2) ∧ w'.cell? ⟨gb102, 3, none⟩ = some (.int .i64 a1_3) ∧ w'.cell? ⟨gb102, 4, none⟩ = some (.slice (some ad104) l1_4.length c1_4) ∧ w'.cell? (ad103.add ((x5_2).toNat * 5)) = some (.int .i64 ((rd_T40 l0_4 x5_2).f0)) ∧ w'.cell? ⟨(ad103.add ((x5_2).toNat * 5)).block, (ad103.add ((x5_2).toNat * 5)).off + 1, none⟩ = some (.string ((rd_T40 l0_4 x5_2).f1)) ∧ w'.cell? ⟨(ad103.add ((x5_2).toNat * 5)).block, (ad103.add ((x5_2).toNat * 5)).off + 2, none⟩ = some (.int .i64 ((rd_T40 l0_4 x5_2).f2)) ∧ w'.cell? ⟨(ad103.add ((x5_2).toNat * 5)).block, (ad103.add ((x5_2).toNat * 5)).off + 3, none⟩ = some (.int .i64 ((rd_T40 l0_4 x5_2).f3)) ∧ w'.cell? ⟨(ad103.add ((x5_2).toNat * 5)).block, (ad103.add ((x5_2).toNat * 5)).off + 4, none⟩ = some (.slice A103_4 ((rd_T40 l0_4 x5_2).f4).length c103_4) ∧ w'.cell? (ad104.add ((x5_2).toNat * 5)) = some (.int .i64 ((rd_T40 l1_4 x5_2).f0)) ∧ w'.cell? ⟨(ad104.add ((x5_2).toNat * 5)).block, (ad104.add ((x5_2).toNat * 5)).off + 1, none⟩ = some (.string ((rd_T40 l1_4 x5_2).f1)) ∧ w'.cell? ⟨(ad104.add ((x5_2).toNat * 5)).block, (ad104.add ((x5_2).toNat * 5)).off + 2, none⟩ = some (.int .i64 ((rd_T40 l1_4 x5_2).f2)) ∧ w'.cell? ⟨(ad104.add ((x5_2).toNat * 5)).block, (ad104.add ((x5_2).toNat * 5)).off + 3, none⟩ = some (.int .i64 ((rd_T40 l1_4 x5_2).f3)) ∧ w'.cell? ⟨(ad104.add ((x5_2).toNat * 5)).block, (ad104.add ((x5_2).toNat * 5)).off + 4, none⟩ = some (.slice A104_4 ((rd_T40 l1_4 x5_2).f4).length c104_4)) (ds := []) #[false, false, false, false, false, false, false, false, false, false, false, false] (by kernel_rfl) rfl rfl ⟨(blk_cell BK101.out 0).trans rfl, (blk_cell BK101.out 1).trans rfl, (blk_cell BK101.out 2).trans rfl, (blk_cell BK101.out 3).trans rfl, (blk_cell BK101.out 4).trans rfl, (blk_cell BK102.out 0).trans rfl, (blk_cell BK102.out 1).trans rfl, (blk_cell BK102.out 2).trans rfl, (blk_cell BK102.out 3).trans rfl, (blk_cell BK102.out 4).trans rfl, ((HB.out.cell (World.block_lt_of_cell? w _ hw103_0)).trans hw103_0), ((HB.out.cell (World.block_lt_of_cell? w _ hw103_1)).trans hw103_1), ((HB.out.cell (World.block_lt_of_cell? w _ hw103_2)).trans hw103_2), ((HB.out.cell (World.block_lt_of_cell? w _ hw103_3)).trans hw103_3), ((HB.out.cell (World.block_lt_of_cell? w _ hw103_4)).trans hw103_4), ((HB.out.cell (World.block_lt_of_cell? w _ hw104_0)).trans hw104_0), ((HB.out.cell (World.block_lt_of_cell? w _ hw104_1)).trans hw104_1), ((HB.out.cell (World.block_lt_of_cell? w _ hw104_2)).trans hw104_2), ((HB.out.cell (World.block_lt_of_cell? w _ hw104_3)).trans hw104_3), ((HB.out.cell (World.block_lt_of_cell? w _ hw104_4)).trans hw104_4)⟩ (fun hHeld => ?_); refine with_tabW hanaperref20_Same.tab6 hanaperref20_Same.bits6 (fun HT_ HW_ => ?_)
          generalize wr.drew = w33 at BK101 BK102 HB HR103_4 HR104_4 hx103_0 hx103_1 hx103_2 hx103_3 hx103_4 hx104_0 hx104_1 hx104_2 hx104_3 hx104_4 hHeld ⊢
          refine pure_ (i := 0) (N := some 48) (v := ?_) (a' := ?_) #[true, false, false, false, false, false, false, false, false, false, false, false] rfl rfl (any_of HT_.out (by kernel_rfl)) (fun _ _ _ h => h) (Or.inl ⟨by rfl, ?_⟩) ?_ ?_
          rotate_left
          ·intro w'
           go_simp
           with_reducible rfl
          rotate_left
          ·simp only [Act.put, List.setIfInBounds_toArray, List.set_cons_zero, List.set_cons_succ, i64_w, i32_w]
           rfl
          refine pure_ (i := 2) (N := some 50) (v := ?_) (a' := ?_) #[true, false, true, false, false, false, false, false, false, false, false, false] rfl rfl (any_of HT_.out (by kernel_rfl)) (fun _ _ _ h => h) (Or.inl ⟨by rfl, ?_⟩) ?_ ?_
          rotate_left
          ·intro w'
           go_simp
           with_reducible rfl
          rotate_left
          ·simp only [Act.put, List.setIfInBounds_toArray, List.set_cons_zero, List.set_cons_succ, i64_w, i32_w]
           rfl
          refine pure_ (i := 5) (N := some 53) (v := ?_) (a' := ?_) #[true, false, true, false, false, true, false, false, false, false, false, false] rfl rfl (any_of HT_.out (by kernel_rfl)) (fun _ _ _ h => h) (Or.inl ⟨by rfl, ?_⟩) ?_ ?_
          rotate_left
          ·intro w'
           go_simp
           with_reducible rfl
          rotate_left
          ·simp only [Act.put, List.setIfInBounds_toArray, List.set_cons_zero, List.set_cons_succ, i64_w, i32_w]
           rfl
          refine pure_ (i := 7) (N := some 55) (v := ?_) (a' := ?_) #[true, false, true, false, false, true, false, true, false, false, false, false] rfl rfl (any_of HT_.out (by kernel_rfl)) (fun _ _ _ h => h) (Or.inl ⟨by rfl, ?_⟩) ?_ ?_
          rotate_left
          ·intro w'
           go_simp
           with_reducible rfl
          rotate_left
          ·simp only [Act.put, List.setIfInBounds_toArray, List.set_cons_zero, List.set_cons_succ, i64_w, i32_w]
           rfl
          refine take_ (i := 1) (N := some 49) (v := ?_) (a' := ?_) #[true, true, true, false, false, true, false, true, false, false, false, false] rfl rfl (take_ofW HT_.out HW_.out (by kernel_rfl)) (fun _ _ _ h => h) (Or.inl ⟨by rfl, ?_⟩) hHeld ?_ ?_
          rotate_left
          ·rintro w' ⟨s0, s1, s2, s3, s4, s5, s6, s7, s8, s9, s10, s11, s12, s13, s14, s15, s16, s17, s18, s19⟩
           go_simp
           with_reducible rfl
          rotate_left
          ·simp only [Act.put, List.setIfInBounds_toArray, List.set_cons_zero, List.set_cons_succ, i64_w, i32_w]
           rfl
          refine pure_ (i := 3) (N := some 51) (v := ?_) (a' := ?_) #[true, true, true, true, false, true, false, true, false, false, false, false] rfl rfl (any_of HT_.out (by kernel_rfl)) (fun _ _ _ h => h) (Or.inl ⟨by rfl, ?_⟩) ?_ ?_
          rotate_left
          ·intro w'
           go_simp
           with_reducible rfl
          rotate_left
          ·simp only [Act.put, List.setIfInBounds_toArray, List.set_cons_zero, List.set_cons_succ, i64_w, i32_w]
           rfl
          refine take_ (i := 4) (N := some 52) (v := ?_) (a' := ?_) #[true, true, true, true, true, true, false, true, false, false, false, false] rfl rfl (take_ofW HT_.out HW_.out (by kernel_rfl)) (fun _ _ _ h => h) (Or.inl ⟨by rfl, ?_⟩) hHeld ?_ ?_
          rotate_left
          ·rintro w' ⟨s0, s1, s2, s3, s4, s5, s6, s7, s8, s9, s10, s11, s12, s13, s14, s15, s16, s17, s18, s19⟩
           go_simp
           with_reducible rfl
          rotate_left
          ·simp only [Act.put, List.setIfInBounds_toArray, List.set_cons_zero, List.set_cons_succ, i64_w, i32_w]
           rfl
          refine take_ (i := 6) (N := some 54) (v := ?_) (a' := ?_) #[true, true, true, true, true, true, true, true, false, false, false, false] rfl rfl (take_ofW HT_.out HW_.out (by kernel_rfl)) (fun _ _ _ h => h) (Or.inl ⟨by rfl, ?_⟩) hHeld ?_ ?_
          rotate_left
          ·rintro w' ⟨s0, s1, s2, s3, s4, s5, s6, s7, s8, s9, s10, s11, s12, s13, s14, s15, s16, s17, s18, s19⟩
           go_simp
           with_reducible rfl
          rotate_left
          ·simp only [Act.put, List.setIfInBounds_toArray, List.set_cons_zero, List.set_cons_succ, i64_w, i32_w]
           rfl
          refine pure_ (i := 8) (N := some 56) (v := ?_) (a' := ?_) #[true, true, true, true, true, true, true, true, true, false, false, false] rfl rfl (any_of HT_.out (by kernel_rfl)) (fun _ _ _ h => h) (Or.inl ⟨by rfl, ?_⟩) ?_ ?_
          rotate_left
          ·intro w'
           go_simp
           with_reducible rfl
          rotate_left
          ·simp only [Act.put, List.setIfInBounds_toArray, List.set_cons_zero, List.set_cons_succ, i64_w, i32_w]
           rfl
          refine take_ (i := 9) (N := some 57) (v := ?_) (a' := ?_) #[true, true, true, true, true, true, true, true, true, true, false, false] rfl rfl (take_ofW HT_.out HW_.out (by kernel_rfl)) (fun _ _ _ h => h) (Or.inl ⟨by rfl, ?_⟩) hHeld ?_ ?_
          rotate_left
          ·rintro w' ⟨s0, s1, s2, s3, s4, s5, s6, s7, s8, s9, s10, s11, s12, s13, s14, s15, s16, s17, s18, s19⟩
           go_simp
           with_reducible rfl
          rotate_left
          ·simp only [Act.put, List.setIfInBounds_toArray, List.set_cons_zero, List.set_cons_succ, i64_w, i32_w]
           rfl
          refine one_ (i := 10) (N := some 58) #[true, true, true, true, true, true, true, true, true, true, true, false] rfl rfl (one_of HT_.out (by kernel_rfl)) (by decide) (fun K hK => ?_)
          refine goes_ Try.func52 (by kernel_rfl) rfl #[.agg #[.int .i64 ((rd_T40 l0_4 x5_2).f0), .string ((rd_T40 l0_4 x5_2).f1), .int .i64 ((rd_T40 l0_4 x5_2).f2), .int .i64 ((rd_T40 l0_4 x5_2).f3), .slice A103_4 ((rd_T40 l0_4 x5_2).f4).length c103_4], .agg #[.int .i64 ((rd_T40 l1_4 x5_2).f0), .string ((rd_T40 l1_4 x5_2).f1), .int .i64 ((rd_T40 l1_4 x5_2).f2), .int .i64 ((rd_T40 l1_4 x5_2).f3), .slice A104_4 ((rd_T40 l1_4 x5_2).f4).length c104_4]] (by rfl) rfl rfl (by (try simp only [List.map_toArray, List.map_cons, List.map_nil]); first | done | rfl | (simp only [List.length_drop, List.length_take]; rfl)) ?_
          with_reducible refine (ih k2 (by have := HJ2.out; have := HK2.out; omega) ((rd_T40 l0_4 x5_2).f0) ((rd_T40 l0_4 x5_2).f1) ((rd_T40 l0_4 x5_2).f2) ((rd_T40 l0_4 x5_2).f3) _ _ ((rd_T40 l0_4 x5_2).f4) ((rd_T40 l1_4 x5_2).f0) ((rd_T40 l1_4 x5_2).f1) ((rd_T40 l1_4 x5_2).f2) ((rd_T40 l1_4 x5_2).f3) _ _ ((rd_T40 l1_4 x5_2).f4) true _ ?side1 ?side2 ?side3 ?side4 A29.out).mono ?_
          (case side1 => repeat (first | exact (Kd.C_below HR103_4.out HB.out) | (with_reducible refine Kd.C_alloc ?_ _) | (with_reducible refine Kd.C_drewN ?_ _) | (with_reducible refine Kd.C_drew ?_)))
          (case side2 => exact HC103_4.out)
          (case side3 => repeat (first | exact (Kd.C_below HR104_4.out HB.out) | (with_reducible refine Kd.C_alloc ?_ _) | (with_reducible refine Kd.C_drewN ?_ _) | (with_reducible refine Kd.C_drew ?_)))
          (case side4 => exact HC104_4.out)
          rintro e w34 ⟨rfl, hb⟩
          refine ⟨_, rfl, ?_⟩
          have n0_ := Aside0.mk (blk_below (g := gb101) (o := .cells #[.int .i64 a0_0, .string a0_1, .int .i64 a0_2, .int .i64 a0_3, .slice (some ad103) l0_4.length c0_4] 40 (0, 0)) (by (with_reducible repeat (first | refine blk_drewN ?_ _ | refine blk_drew ?_ | refine blk_alloc ?_ _)); exact BK101.out) hb)
          have n1_ := Aside0.mk (blk_below (g := gb102) (o := .cells #[.int .i64 a1_0, .string a1_1, .int .i64 a1_2, .int .i64 a1_3, .slice (some ad104) l1_4.length c1_4] 40 (0, 0)) (by (with_reducible repeat (first | refine blk_drewN ?_ _ | refine blk_drew ?_ | refine blk_alloc ?_ _)); exact BK102.out) hb)
          have n2_ := Aside0.mk (below_step (by repeat (first | (with_reducible first | exact HB.out | apply below_alloc | apply pw_below_drewN | apply below_drew1 | refine below_set ?_ GE101.out | refine below_set ?_ GE102.out) | exact HB.out)) hb)
          clear BK101
          clear BK102
          clear HB
          have BK101 := n0_
          have BK102 := n1_
          have HB := n2_
          clear n0_ n1_ n2_
          (try clear hb)
          (try clear hb2)
          (try clear hk)
          (try clear hi)
          refine hK.out _ _ ⟨(blk_cell BK101.out 0).trans rfl, (blk_cell BK101.out 1).trans rfl, (blk_cell BK101.out 2).trans rfl, (blk_cell BK101.out 3).trans rfl, (blk_cell BK101.out 4).trans rfl, (blk_cell BK102.out 0).trans rfl, (blk_cell BK102.out 1).trans rfl, (blk_cell BK102.out 2).trans rfl, (blk_cell BK102.out 3).trans rfl, (blk_cell BK102.out 4).trans rfl, ((HB.out.cell (World.block_lt_of_cell? w _ hw103_0)).trans hw103_0), ((HB.out.cell (World.block_lt_of_cell? w _ hw103_1)).trans hw103_1), ((HB.out.cell (World.block_lt_of_cell? w _ hw103_2)).trans hw103_2), ((HB.out.cell (World.block_lt_of_cell? w _ hw103_3)).trans hw103_3), ((HB.out.cell (World.block_lt_of_cell? w _ hw103_4)).trans hw103_4), ((HB.out.cell (World.block_lt_of_cell? w _ hw104_0)).trans hw104_0), ((HB.out.cell (World.block_lt_of_cell? w _ hw104_1)).trans hw104_1), ((HB.out.cell (World.block_lt_of_cell? w _ hw104_2)).trans hw104_2), ((HB.out.cell (World.block_lt_of_cell? w _ hw104_3)).trans hw104_3), ((HB.out.cell (World.block_lt_of_cell? w _ hw104_4)).trans hw104_4)⟩ (fun hHeld => ?_)
          clear hK K
          refine norm_ (a' := ?_) ?_ ?_
          rotate_left
          ·show Act.put _ (some 58) _ = _
           simp only [Act.put, List.setIfInBounds_toArray, List.set_cons_zero, List.set_cons_succ, i64_w, i32_w]
           rfl
          refine pure_ (i := 11) (N := some 59) (v := ?_) (a' := ?_) #[true, true, true, true, true, true, true, true, true, true, true, true] rfl rfl (any_of HT_.out (by kernel_rfl)) (fun _ _ _ h => h) (Or.inl ⟨by rfl, ?_⟩) ?_ ?_
          rotate_left
          ·intro w'
           go_simp
           with_reducible rfl
          rotate_left
          ·simp only [Act.put, List.setIfInBounds_toArray, List.set_cons_zero, List.set_cons_succ, i64_w, i32_w]
           rfl
          refine done_ (done_of HT_.out (by kernel_rfl)) ?_
          try go_wp2
          go_roundg k2
          case measure => have := HJ2.out; have := HK2.out; omega
          case rel => exact ⟨(wrap64 (x5_2 + 1)), (by first | rfl | (simp; done) | (simp [*]; done)), H', ⟨by have := HJ2.out; have := HK2.out; omega⟩, ⟨by (with_reducible repeat (first | refine blk_drewN ?_ _ | refine blk_drew ?_ | refine blk_alloc ?_ _)); exact BK101.out⟩, ⟨by (with_reducible repeat (first | refine blk_drewN ?_ _ | refine blk_drew ?_ | refine blk_alloc ?_ _)); exact BK102.out⟩, ⟨by repeat (first | (with_reducible first | exact HB.out | apply below_alloc | apply pw_below_drewN | apply below_drew1 | refine below_set ?_ GE101.out | refine below_set ?_ GE102.out) | exact HB.out)⟩⟩
         ·replace c30 := Bool.eq_false_iff.mpr c30
          subst c30
          have H1 : (some false) = some r := by rw [if_neg (show ¬ (false = true) by decide)] at H; exact H
          clear H
          have H := H1
          clear H1
          obtain rfl := Option.some.inj H
          have hnb35 := NB101_102.out
          have hnc35 := NB102_101.out
          have hcz36_0 : wr.cell? ⟨gb101, 0, none⟩ = some (.int .i64 a0_0) := (blk_cell BK101.out 0).trans rfl
          have hcz36_1 : wr.cell? ⟨gb101, 1, none⟩ = some (.string a0_1) := (blk_cell BK101.out 1).trans rfl
          have hcz36_2 : wr.cell? ⟨gb101, 2, none⟩ = some (.int .i64 a0_2) := (blk_cell BK101.out 2).trans rfl
          have hcz36_3 : wr.cell? ⟨gb101, 3, none⟩ = some (.int .i64 a0_3) := (blk_cell BK101.out 3).trans rfl
          have hcz36_4 : wr.cell? ⟨gb101, 4, none⟩ = some (.slice A0_4 l0_4.length c0_4) := (blk_cell BK101.out 4).trans rfl
          have hfz36_0 := blk_frozen BK101.out 0
          have hfz36_1 := blk_frozen BK101.out 1
          have hfz36_2 := blk_frozen BK101.out 2
          have hfz36_3 := blk_frozen BK101.out 3
          have hfz36_4 := blk_frozen BK101.out 4
          try go_wp2
          have n0_ := Aside0.mk (blk_drew BK101.out)
          have n1_ := Aside0.mk (blk_drew BK102.out)
          have n2_ := Aside0.mk (below_drew1 HB.out)
          clear BK101
          clear BK102
          clear HB
          have BK101 := n0_
          have BK102 := n1_
          have HB := n2_
          clear n0_ n1_ n2_
          have p103 : 0 ≤ (x5_2 : Int) := of_decide_eq_true (by first | (with_reducible assumption) | assumption)
          have q103 : x5_2 < (l0_4.length : Int) := of_decide_eq_true (by first | (with_reducible assumption) | assumption)
          obtain ⟨ad103, A103_4, c103_4, e103, hx103_0, hx103_1, hx103_2, hx103_3, hx103_4, hl103_4, hi103_4⟩ := at_T40 HR0_4.out x5_2 p103 q103
          have hw103_4 := hx103_4
          have hw103_3 := hx103_3
          have hw103_2 := hx103_2
          have hw103_1 := hx103_1
          have hw103_0 := hx103_0
          cases e103
          replace hx103_0 := (HB.out.cell (World.block_lt_of_cell? w _ hx103_0)).trans hx103_0
          replace hx103_1 := (HB.out.cell (World.block_lt_of_cell? w _ hx103_1)).trans hx103_1
          replace hx103_2 := (HB.out.cell (World.block_lt_of_cell? w _ hx103_2)).trans hx103_2
          replace hx103_3 := (HB.out.cell (World.block_lt_of_cell? w _ hx103_3)).trans hx103_3
          replace hx103_4 := (HB.out.cell (World.block_lt_of_cell? w _ hx103_4)).trans hx103_4
          have HR103_4 := Aside0.mk hi103_4
          have HC103_4 := Aside0.mk hl103_4
          clear hi103_4 hl103_4
          replace p103 := eq_true p103
          replace q103 := eq_true q103
          have p104 : 0 ≤ (x5_2 : Int) := of_decide_eq_true (by first | (with_reducible assumption) | assumption)
          have q104 : x5_2 < (l1_4.length : Int) := of_decide_eq_true (by first | (with_reducible assumption) | assumption)
          obtain ⟨ad104, A104_4, c104_4, e104, hx104_0, hx104_1, hx104_2, hx104_3, hx104_4, hl104_4, hi104_4⟩ := at_T40 HR1_4.out x5_2 p104 q104
          have hw104_4 := hx104_4
          have hw104_3 := hx104_3
          have hw104_2 := hx104_2
          have hw104_1 := hx104_1
          have hw104_0 := hx104_0
          cases e104
          replace hx104_0 := (HB.out.cell (World.block_lt_of_cell? w _ hx104_0)).trans hx104_0
          replace hx104_1 := (HB.out.cell (World.block_lt_of_cell? w _ hx104_1)).trans hx104_1
          replace hx104_2 := (HB.out.cell (World.block_lt_of_cell? w _ hx104_2)).trans hx104_2
          replace hx104_3 := (HB.out.cell (World.block_lt_of_cell? w _ hx104_3)).trans hx104_3
          replace hx104_4 := (HB.out.cell (World.block_lt_of_cell? w _ hx104_4)).trans hx104_4
          have HR104_4 := Aside0.mk hi104_4
          have HC104_4 := Aside0.mk hl104_4
          clear hi104_4 hl104_4
          replace p104 := eq_true p104
          replace q104 := eq_true q104
          refine start_ (n := 12) (S := fun w' => w'.cell? ⟨gb101, 0, none⟩ = some (.int .i64 a0_0) ∧ w'.cell? ⟨gb101, 1, none⟩ = some (.string a0_1) ∧ w'.cell? ⟨gb101, 2, none⟩ = some (.int .i64 a0_2) ∧ w'.cell? ⟨gb101, 3, none⟩ = some (.int .i64 a0_3) ∧ w'.cell? ⟨gb101, 4, none⟩ = some (.slice (some ad103) l0_4.length c0_4) ∧ w'.cell? ⟨gb102, 0, none⟩ = some (.int .i64 a1_0) ∧ w'.cell? ⟨gb102, 1, none⟩ = some (.string a1_1) ∧ w'.cell? ⟨gb102, 2, none⟩ = some (.int .i64 a1_2) ∧ w'.cell? ⟨gb102, 3, none⟩ = some (.int .i64 a1_3) ∧ w'.cell? ⟨gb102, 4, none⟩ = some (.slice (some ad104) l1_4.length c1_4) ∧ w'.cell? (ad103.add ((x5_2).toNat * 5)) = some (.int .i64 ((rd_T40 l0_4 x5_2).f0)) ∧ w'.cell? ⟨(ad103.add ((x5_2).toNat * 5)).block, (ad103.add ((x5_2).toNat * 5)).off + 1, none⟩ = some (.string ((rd_T40 l0_4 x5_2).f1)) ∧ w'.cell? ⟨(ad103.add ((x5_2).toNat * 5)).block, (ad103.add ((x5_2).toNat * 5)).off + 2, none⟩ = some (.int .i64 ((rd_T40 l0_4 x5_2).f2)) ∧ w'.cell? ⟨(ad103.add ((x5_2).toNat * 5)).block, (ad103.add ((x5_2).toNat * 5)).off + 3, none⟩ = some (.int .i64 ((rd_T40 l0_4 x5_2).f3)) ∧ w'.cell? ⟨(ad103.add ((x5_2).toNat * 5)).block, (ad103.add ((x5_2).toNat * 5)).off + 4, none⟩ = some (.slice A103_4 ((rd_T40 l0_4 x5_2).f4).length c103_4) ∧ w'.cell? (ad104.add ((x5_2).toNat * 5)) = some (.int .i64 ((rd_T40 l1_4 x5_2).f0)) ∧ w'.cell? ⟨(ad104.add ((x5_2).toNat * 5)).block, (ad104.add ((x5_2).toNat * 5)).off + 1, none⟩ = some (.string ((rd_T40 l1_4 x5_2).f1)) ∧ w'.cell? ⟨(ad104.add ((x5_2).toNat * 5)).block, (ad104.add ((x5_2).toNat * 5)).off + 2, none⟩ = some (.int .i64 ((rd_T40 l1_4 x5_2).f2)) ∧ w'.cell? ⟨(ad104.add ((x5_2).toNat * 5)).block, (ad104.add ((x5_2).toNat * 5)).off + 3, none⟩ = some (.int .i64 ((rd_T40 l1_4 x5_2).f3)) ∧ w'.cell? ⟨(ad104.add ((x5_2).toNat * 5)).block, (ad104.add ((x5_2).toNat * 5)).off + 4, none⟩ = some (.slice A104_4 ((rd_T40 l1_4 x5_2).f4).length c104_4)) (ds := []) #[false, false, false, false, false, false, false, false, false, false, false, false] (by kernel_rfl) rfl rfl ⟨(blk_cell BK101.out 0).trans rfl, (blk_cell BK101.out 1).trans rfl, (blk_cell BK101.out 2).trans rfl, (blk_cell BK101.out 3).trans rfl, (blk_cell BK101.out 4).trans rfl, (blk_cell BK102.out 0).trans rfl, (blk_cell BK102.out 1).trans rfl, (blk_cell BK102.out 2).trans rfl, (blk_cell BK102.out 3).trans rfl, (blk_cell BK102.out 4).trans rfl, ((HB.out.cell (World.block_lt_of_cell? w _ hw103_0)).trans hw103_0), ((HB.out.cell (World.block_lt_of_cell? w _ hw103_1)).trans hw103_1), ((HB.out.cell (World.block_lt_of_cell? w _ hw103_2)).trans hw103_2), ((HB.out.cell (World.block_lt_of_cell? w _ hw103_3)).trans hw103_3), ((HB.out.cell (World.block_lt_of_cell? w _ hw103_4)).trans hw103_4), ((HB.out.cell (World.block_lt_of_cell? w _ hw104_0)).trans hw104_0), ((HB.out.cell (World.block_lt_of_cell? w _ hw104_1)).trans hw104_1), ((HB.out.cell (World.block_lt_of_cell? w _ hw104_2)).trans hw104_2), ((HB.out.cell (World.block_lt_of_cell? w _ hw104_3)).trans hw104_3), ((HB.out.cell (World.block_lt_of_cell? w _ hw104_4)).trans hw104_4)⟩ (fun hHeld => ?_); refine with_tabW hanaperref20_Same.tab6 hanaperref20_Same.bits6 (fun HT_ HW_ => ?_)
          generalize wr.drew = w37 at BK101 BK102 HB HR103_4 HR104_4 hx103_0 hx103_1 hx103_2 hx103_3 hx103_4 hx104_0 hx104_1 hx104_2 hx104_3 hx104_4 hHeld ⊢
          refine pure_ (i := 0) (N := some 48) (v := ?_) (a' := ?_) #[true, false, false, false, false, false, false, false, false, false, false, false] rfl rfl (any_of HT_.out (by kernel_rfl)) (fun _ _ _ h => h) (Or.inl ⟨by rfl, ?_⟩) ?_ ?_
          rotate_left
          ·intro w'
           go_simp
           with_reducible rfl
          rotate_left
          ·simp only [Act.put, List.setIfInBounds_toArray, List.set_cons_zero, List.set_cons_succ, i64_w, i32_w]
           rfl
          refine pure_ (i := 2) (N := some 50) (v := ?_) (a' := ?_) #[true, false, true, false, false, false, false, false, false, false, false, false] rfl rfl (any_of HT_.out (by kernel_rfl)) (fun _ _ _ h => h) (Or.inl ⟨by rfl, ?_⟩) ?_ ?_
          rotate_left
          ·intro w'
           go_simp
           with_reducible rfl
          rotate_left
          ·simp only [Act.put, List.setIfInBounds_toArray, List.set_cons_zero, List.set_cons_succ, i64_w, i32_w]
           rfl
          refine pure_ (i := 5) (N := some 53) (v := ?_) (a' := ?_) #[true, false, true, false, false, true, false, false, false, false, false, false] rfl rfl (any_of HT_.out (by kernel_rfl)) (fun _ _ _ h => h) (Or.inl ⟨by rfl, ?_⟩) ?_ ?_
          rotate_left
          ·intro w'
           go_simp
           with_reducible rfl
          rotate_left
          ·simp only [Act.put, List.setIfInBounds_toArray, List.set_cons_zero, List.set_cons_succ, i64_w, i32_w]
           rfl
          refine pure_ (i := 7) (N := some 55) (v := ?_) (a' := ?_) #[true, false, true, false, false, true, false, true, false, false, false, false] rfl rfl (any_of HT_.out (by kernel_rfl)) (fun _ _ _ h => h) (Or.inl ⟨by rfl, ?_⟩) ?_ ?_
          rotate_left
          ·intro w'
           go_simp
           with_reducible rfl
          rotate_left
          ·simp only [Act.put, List.setIfInBounds_toArray, List.set_cons_zero, List.set_cons_succ, i64_w, i32_w]
           rfl
          refine take_ (i := 1) (N := some 49) (v := ?_) (a' := ?_) #[true, true, true, false, false, true, false, true, false, false, false, false] rfl rfl (take_ofW HT_.out HW_.out (by kernel_rfl)) (fun _ _ _ h => h) (Or.inl ⟨by rfl, ?_⟩) hHeld ?_ ?_
          rotate_left
          ·rintro w' ⟨s0, s1, s2, s3, s4, s5, s6, s7, s8, s9, s10, s11, s12, s13, s14, s15, s16, s17, s18, s19⟩
           go_simp
           with_reducible rfl
          rotate_left
          ·simp only [Act.put, List.setIfInBounds_toArray, List.set_cons_zero, List.set_cons_succ, i64_w, i32_w]
           rfl
          refine pure_ (i := 3) (N := some 51) (v := ?_) (a' := ?_) #[true, true, true, true, false, true, false, true, false, false, false, false] rfl rfl (any_of HT_.out (by kernel_rfl)) (fun _ _ _ h => h) (Or.inl ⟨by rfl, ?_⟩) ?_ ?_
          rotate_left
          ·intro w'
           go_simp
           with_reducible rfl
          rotate_left
          ·simp only [Act.put, List.setIfInBounds_toArray, List.set_cons_zero, List.set_cons_succ, i64_w, i32_w]
           rfl
          refine take_ (i := 4) (N := some 52) (v := ?_) (a' := ?_) #[true, true, true, true, true, true, false, true, false, false, false, false] rfl rfl (take_ofW HT_.out HW_.out (by kernel_rfl)) (fun _ _ _ h => h) (Or.inl ⟨by rfl, ?_⟩) hHeld ?_ ?_
          rotate_left
          ·rintro w' ⟨s0, s1, s2, s3, s4, s5, s6, s7, s8, s9, s10, s11, s12, s13, s14, s15, s16, s17, s18, s19⟩
           go_simp
           with_reducible rfl
          rotate_left
          ·simp only [Act.put, List.setIfInBounds_toArray, List.set_cons_zero, List.set_cons_succ, i64_w, i32_w]
           rfl
          refine take_ (i := 6) (N := some 54) (v := ?_) (a' := ?_) #[true, true, true, true, true, true, true, true, false, false, false, false] rfl rfl (take_ofW HT_.out HW_.out (by kernel_rfl)) (fun _ _ _ h => h) (Or.inl ⟨by rfl, ?_⟩) hHeld ?_ ?_
          rotate_left
          ·rintro w' ⟨s0, s1, s2, s3, s4, s5, s6, s7, s8, s9, s10, s11, s12, s13, s14, s15, s16, s17, s18, s19⟩
           go_simp
           with_reducible rfl
          rotate_left
          ·simp only [Act.put, List.setIfInBounds_toArray, List.set_cons_zero, List.set_cons_succ, i64_w, i32_w]
           rfl
          refine pure_ (i := 8) (N := some 56) (v := ?_) (a' := ?_) #[true, true, true, true, true, true, true, true, true, false, false, false] rfl rfl (any_of HT_.out (by kernel_rfl)) (fun _ _ _ h => h) (Or.inl ⟨by rfl, ?_⟩) ?_ ?_
          rotate_left
          ·intro w'
           go_simp
           with_reducible rfl
          rotate_left
          ·simp only [Act.put, List.setIfInBounds_toArray, List.set_cons_zero, List.set_cons_succ, i64_w, i32_w]
           rfl
          refine take_ (i := 9) (N := some 57) (v := ?_) (a' := ?_) #[true, true, true, true, true, true, true, true, true, true, false, false] rfl rfl (take_ofW HT_.out HW_.out (by kernel_rfl)) (fun _ _ _ h => h) (Or.inl ⟨by rfl, ?_⟩) hHeld ?_ ?_
          rotate_left
          ·rintro w' ⟨s0, s1, s2, s3, s4, s5, s6, s7, s8, s9, s10, s11, s12, s13, s14, s15, s16, s17, s18, s19⟩
           go_simp
           with_reducible rfl
          rotate_left
          ·simp only [Act.put, List.setIfInBounds_toArray, List.set_cons_zero, List.set_cons_succ, i64_w, i32_w]
           rfl
          refine one_ (i := 10) (N := some 58) #[true, true, true, true, true, true, true, true, true, true, true, false] rfl rfl (one_of HT_.out (by kernel_rfl)) (by decide) (fun K hK => ?_)
          refine goes_ Try.func52 (by kernel_rfl) rfl #[.agg #[.int .i64 ((rd_T40 l0_4 x5_2).f0), .string ((rd_T40 l0_4 x5_2).f1), .int .i64 ((rd_T40 l0_4 x5_2).f2), .int .i64 ((rd_T40 l0_4 x5_2).f3), .slice A103_4 ((rd_T40 l0_4 x5_2).f4).length c103_4], .agg #[.int .i64 ((rd_T40 l1_4 x5_2).f0), .string ((rd_T40 l1_4 x5_2).f1), .int .i64 ((rd_T40 l1_4 x5_2).f2), .int .i64 ((rd_T40 l1_4 x5_2).f3), .slice A104_4 ((rd_T40 l1_4 x5_2).f4).length c104_4]] (by rfl) rfl rfl (by (try simp only [List.map_toArray, List.map_cons, List.map_nil]); first | done | rfl | (simp only [List.length_drop, List.length_take]; rfl)) ?_
          with_reducible refine (ih k2 (by have := HJ2.out; have := HK2.out; omega) ((rd_T40 l0_4 x5_2).f0) ((rd_T40 l0_4 x5_2).f1) ((rd_T40 l0_4 x5_2).f2) ((rd_T40 l0_4 x5_2).f3) _ _ ((rd_T40 l0_4 x5_2).f4) ((rd_T40 l1_4 x5_2).f0) ((rd_T40 l1_4 x5_2).f1) ((rd_T40 l1_4 x5_2).f2) ((rd_T40 l1_4 x5_2).f3) _ _ ((rd_T40 l1_4 x5_2).f4) false _ ?side1 ?side2 ?side3 ?side4 A29.out).mono ?_
          (case side1 => repeat (first | exact (Kd.C_below HR103_4.out HB.out) | (with_reducible refine Kd.C_alloc ?_ _) | (with_reducible refine Kd.C_drewN ?_ _) | (with_reducible refine Kd.C_drew ?_)))
          (case side2 => exact HC103_4.out)
          (case side3 => repeat (first | exact (Kd.C_below HR104_4.out HB.out) | (with_reducible refine Kd.C_alloc ?_ _) | (with_reducible refine Kd.C_drewN ?_ _) | (with_reducible refine Kd.C_drew ?_)))
          (case side4 => exact HC104_4.out)
          rintro e w38 ⟨rfl, hb⟩
          refine ⟨_, rfl, ?_⟩
          have n0_ := Aside0.mk (blk_below (g := gb101) (o := .cells #[.int .i64 a0_0, .string a0_1, .int .i64 a0_2, .int .i64 a0_3, .slice (some ad103) l0_4.length c0_4] 40 (0, 0)) (by (with_reducible repeat (first | refine blk_drewN ?_ _ | refine blk_drew ?_ | refine blk_alloc ?_ _)); exact BK101.out) hb)
          have n1_ := Aside0.mk (blk_below (g := gb102) (o := .cells #[.int .i64 a1_0, .string a1_1, .int .i64 a1_2, .int .i64 a1_3, .slice (some ad104) l1_4.length c1_4] 40 (0, 0)) (by (with_reducible repeat (first | refine blk_drewN ?_ _ | refine blk_drew ?_ | refine blk_alloc ?_ _)); exact BK102.out) hb)
          have n2_ := Aside0.mk (below_step (by repeat (first | (with_reducible first | exact HB.out | apply below_alloc | apply pw_below_drewN | apply below_drew1 | refine below_set ?_ GE101.out | refine below_set ?_ GE102.out) | exact HB.out)) hb)
          clear BK101
          clear BK102
          clear HB
          have BK101 := n0_
          have BK102 := n1_
          have HB := n2_
          clear n0_ n1_ n2_
          (try clear hb)
          (try clear hb2)
          (try clear hk)
          (try clear hi)
          refine hK.out _ _ ⟨(blk_cell BK101.out 0).trans rfl, (blk_cell BK101.out 1).trans rfl, (blk_cell BK101.out 2).trans rfl, (blk_cell BK101.out 3).trans rfl, (blk_cell BK101.out 4).trans rfl, (blk_cell BK102.out 0).trans rfl, (blk_cell BK102.out 1).trans rfl, (blk_cell BK102.out 2).trans rfl, (blk_cell BK102.out 3).trans rfl, (blk_cell BK102.out 4).trans rfl, ((HB.out.cell (World.block_lt_of_cell? w _ hw103_0)).trans hw103_0), ((HB.out.cell (World.block_lt_of_cell? w _ hw103_1)).trans hw103_1), ((HB.out.cell (World.block_lt_of_cell? w _ hw103_2)).trans hw103_2), ((HB.out.cell (World.block_lt_of_cell? w _ hw103_3)).trans hw103_3), ((HB.out.cell (World.block_lt_of_cell? w _ hw103_4)).trans hw103_4), ((HB.out.cell (World.block_lt_of_cell? w _ hw104_0)).trans hw104_0), ((HB.out.cell (World.block_lt_of_cell? w _ hw104_1)).trans hw104_1), ((HB.out.cell (World.block_lt_of_cell? w _ hw104_2)).trans hw104_2), ((HB.out.cell (World.block_lt_of_cell? w _ hw104_3)).trans hw104_3), ((HB.out.cell (World.block_lt_of_cell? w _ hw104_4)).trans hw104_4)⟩ (fun hHeld => ?_)
          clear hK K
          refine norm_ (a' := ?_) ?_ ?_
          rotate_left
          ·show Act.put _ (some 58) _ = _
           simp only [Act.put, List.setIfInBounds_toArray, List.set_cons_zero, List.set_cons_succ, i64_w, i32_w]
           rfl
          refine pure_ (i := 11) (N := some 59) (v := ?_) (a' := ?_) #[true, true, true, true, true, true, true, true, true, true, true, true] rfl rfl (any_of HT_.out (by kernel_rfl)) (fun _ _ _ h => h) (Or.inl ⟨by rfl, ?_⟩) ?_ ?_
          rotate_left
          ·intro w'
           go_simp
           with_reducible rfl
          rotate_left
          ·simp only [Act.put, List.setIfInBounds_toArray, List.set_cons_zero, List.set_cons_succ, i64_w, i32_w]
           rfl
          refine done_ (done_of HT_.out (by kernel_rfl)) ?_
          try go_wp2
          go_ret
          exact ⟨by first | rfl | (simp [errW_none, errW_some] <;> rfl) | (simp [*, errW_none, errW_some] <;> rfl), by repeat (first | (with_reducible first | exact HB.out | apply below_alloc | apply pw_below_drewN | apply below_drew1 | refine below_set ?_ GE101.out | refine below_set ?_ GE102.out) | exact HB.out)⟩
        ·rw [if_neg c28] at H
         exact absurd H (by simp)
       ·rw [if_neg c27] at H
        exact absurd H (by simp)
      ·rw [if_neg c26] at H
       have c26b0 : decide (x5_2 < (l0_4.length : Int)) = false := decide_eq_false c26
       clear c26
       obtain rfl := Option.some.inj H
       have hnb39 := NB101_102.out
       have hnc39 := NB102_101.out
       have hcz40_0 : wr.cell? ⟨gb101, 0, none⟩ = some (.int .i64 a0_0) := (blk_cell BK101.out 0).trans rfl
       have hcz40_1 : wr.cell? ⟨gb101, 1, none⟩ = some (.string a0_1) := (blk_cell BK101.out 1).trans rfl
       have hcz40_2 : wr.cell? ⟨gb101, 2, none⟩ = some (.int .i64 a0_2) := (blk_cell BK101.out 2).trans rfl
       have hcz40_3 : wr.cell? ⟨gb101, 3, none⟩ = some (.int .i64 a0_3) := (blk_cell BK101.out 3).trans rfl
       have hcz40_4 : wr.cell? ⟨gb101, 4, none⟩ = some (.slice A0_4 l0_4.length c0_4) := (blk_cell BK101.out 4).trans rfl
       have hfz40_0 := blk_frozen BK101.out 0
       have hfz40_1 := blk_frozen BK101.out 1
       have hfz40_2 := blk_frozen BK101.out 2
       have hfz40_3 := blk_frozen BK101.out 3
       have hfz40_4 := blk_frozen BK101.out 4
       go_wp2
       go_ret
       exact ⟨by first | rfl | (simp [errW_none, errW_some] <;> rfl) | (simp [*, errW_none, errW_some] <;> rfl), by repeat (first | (with_reducible first | exact HB.out | apply below_alloc | apply pw_below_drewN | apply below_drew1 | refine below_set ?_ GE101.out | refine below_set ?_ GE102.out) | exact HB.out)⟩

end Go.Proofs.Ytgdpabedlghiaaa.PZ
