/- Own and printed texts, laid together. -/
import Derived.Test.YtgdpabedlghiaaaSpGE
import Derived.Test.YtgdpabedlghiaaaSpGB
import Derived.Deep.RegionLaw
import Derived.Deep.DeepCutAuto
import Derived.Test.YtgdpabedlghiaaaSpGD
import Derived.WalkSpells
/- scope.read walked: the next scope of a reader (printed by gen_scread.py). -/
namespace Go.Proofs.Ytgdpabedlghiaaa.Scope
set_option linter.unusedVariables false
set_option linter.unusedSimpArgs false
open Go.RowKit Go.Proofs.Ytgdpabedlghiaaa.Base Go.Proofs.Ytgdpabedlghiaaa.TlvPlain Go.Proofs.Ytgdpabedlghiaaa.Lo Go.Proofs.Ytgdpabedlghiaaa.RdPlain Go.Proofs.Ytgdpabedlghiaaa.Aid Go.Proofs.Ytgdpabedlghiaaa.PZ Go.Proofs.YtgdpabedlghiaaaW.PrintWords Go.Proofs.YtgdpabedlghiaaaW.PrintLast Go.Proofs.YtgdpabedlghiaaaW.PrintMore
open Tlv (RdO takeO_ okO countO_ textO_)
theorem Blk.keep {w w' : World} {k g T : Nat} {cs : Array Value} (h : Blk w k T cs) (hk : KeepBut w w' g none) (hne : k ≠ g) : Blk w' k T cs := hk.blk h hne (by simp)
def NoU8 (v : Value) : Prop := ∀ n, v ≠ .int .u8 n
theorem no_u8_5 {a b c d e : Value} (ha : NoU8 a) (hb : NoU8 b) (hc : NoU8 c) (hd : NoU8 d) (he : NoU8 e) (i : Nat) (v : Value) (h : (#[a, b, c, d, e] : Array Value)[i]? = some v) (n : Int) : v ≠ .int .u8 n := by
 match i, h with
 | 0, h => cases h; exact ha n
 | 1, h => cases h; exact hb n
 | 2, h => cases h; exact hc n
 | 3, h => cases h; exact hd n
 | 4, h => cases h; exact he n
theorem set5 {w : World} {g T : Nat} {a b c d e : Value} (h : Blk w g T #[a, b, c, d, e]) (a' b' c' d' e' : Value) : Blk (((((w.setCell ⟨g, 0, none⟩ a').setCell ⟨g, 1, none⟩ b').setCell ⟨g, 2, none⟩ c').setCell ⟨g, 3, none⟩ d').setCell ⟨g, 4, none⟩ e') g T #[a', b', c', d', e'] := by
 have h5 := blk_set (blk_set (blk_set (blk_set (blk_set h 0 a') 1 b') 2 c') 3 d') 4 e'
 simpa [Blk] using h5
theorem left_set5 {w0 w W : World} {g q T : Nat} {s : Option (List Int)} {a b c d e : Value} (h : Tlv.Left w0 w W g s) (hq : Blk W q T #[a, b, c, d, e]) (ha : NoU8 a) (hb : NoU8 b) (hc : NoU8 c) (hd : NoU8 d) (he : NoU8 e) (hne : g ≠ q) (h0 : w0.heap.size ≤ q) (hw : w.heap.size ≤ q) (a' b' c' d' e' : Value) :
  Tlv.Left w0 w (((((W.setCell ⟨q, 0, none⟩ a').setCell ⟨q, 1, none⟩ b').setCell ⟨q, 2, none⟩ c').setCell ⟨q, 3, none⟩ d').setCell ⟨q, 4, none⟩ e') g s :=
 ⟨h.1.keep ((((((KeepBut.refl W q none).set_ 0 _).set_ 1 _).set_ 2 _).set_ 3 _).set_ 4 _) hne hq (no_u8_5 ha hb hc hd he), below_set (below_set (below_set (below_set (below_set h.2.1 h0) h0) h0) h0) h0, keep_far (keep_far (keep_far (keep_far (keep_far h.2.2 hw _) hw _) hw _) hw _) hw _⟩
theorem left_set1 {w0 w W : World} {g q T j : Nat} {s : Option (List Int)} {a b c d e : Value} (h : Tlv.Left w0 w W g s) (hq : Blk W q T #[a, b, c, d, e]) (ha : NoU8 a) (hb : NoU8 b) (hc : NoU8 c) (hd : NoU8 d) (he : NoU8 e) (hne : g ≠ q) (h0 : w0.heap.size ≤ q) (hw : w.heap.size ≤ q) (v : Value) :
  Tlv.Left w0 w (W.setCell ⟨q, j, none⟩ v) g s :=
 ⟨h.1.keep ((KeepBut.refl W q none).set_ j _) hne hq (no_u8_5 ha hb hc hd he), below_set h.2.1 h0, keep_far h.2.2 hw _⟩
theorem left_below {w0 w W W1 : World} {g : Nat} {s : Option (List Int)} (h : Tlv.Left w0 w W g s) (hb : Below W.heap.size W W1) : Tlv.Left w0 w W1 g s := ⟨h.1.below hb, below_step h.2.1 hb, h.2.2.trans (KeepBut.of_below hb g none) (.inl rfl)⟩
/-- What a reading of a scope leaves. -/
def ReadQ (w0 w : World) (g : Nat) (r : Option (S40 × List Int)) (e : Ending) (w' : World) : Prop :=
 match r with
 | some (x, s) => ∃ v, e = .returned (.tuple #[.agg #[.int .i64 x.f0, .string x.f1, .int .i64 x.f2, .int .i64 x.f3, v], .bool true]) ∧ Kd.R k40 40 w' w.heap.size (fun _ => True) v x.f4 ∧ Tlv.Left w0 w w' g (some s)
 | none => ∃ (y0 : Int) (y1 : ByteArray) (y2 y3 : Int) (A : Option Addr) (n c : Nat) (s : Option (List Int)), e = .returned (.tuple #[.agg #[.int .i64 y0, .string y1, .int .i64 y2, .int .i64 y3, .slice A n c], .bool false]) ∧ Tlv.Left w0 w w' g s
theorem take1 (c : Int) (r : List Int) : takeO (some (c :: r)) 1 = ([c], some r) := by
 simp only [takeO]
 rw [if_pos (by rw [List.length_cons]; omega)]
 rfl
theorem drawn_b {w w' : World} (h : Drawn0 w w') : Below w.heap.size w w' := by obtain ⟨n, rfl⟩ := h; exact pw_below_drewN (Below.refl _ _) n
/-- What the loop over a scope's kids keeps. -/
def Kids (w0 w W : World) (g gt : Nat) (c : Int) (nm : ByteArray) (fr tt : Int) (ks : List S40) (s : Option (List Int)) (b1 : Nat) : Prop :=
 ∃ v, (∃ A n c, v = .slice A n c) ∧ Blk W gt 40 #[.int .i64 c, .string nm, .int .i64 fr, .int .i64 tt, v] ∧ Kd.R k40 40 W b1 (fun k => k ≠ g ∧ k ≠ gt) v ks ∧ Tlv.Left w0 w W g s ∧ Blk W w.heap.size 40 #[.int .i64 0, .string ⟨#[]⟩, .int .i64 0, .int .i64 0, .slice none 0 0]
theorem left_grown {w0 w W W1 : World} {g : Nat} {s : Option (List Int)} {row : Option Nat} (h : Tlv.Left w0 w W g s) (hb : Below w.heap.size W W1) (hg : W.grownBy W1 row) (hr : ∀ b, row = some b → g < b ∧ w0.heap.size ≤ b) (h0 : w0.heap.size ≤ w.heap.size) : Tlv.Left w0 w W1 g s :=
 ⟨h.1.grown hg (fun b e => (hr b e).1), h.2.1.trans (hb.mono h0), Nat.le_trans h.2.2.1 hb.size, fun i hi h1 h2 => (hb.block i hi).trans (h.2.2.2 i hi h1 h2)⟩
/-- What is left to be read of the kids. -/
def Rest (d N : Nat) (s2 : Option (List Int)) (i : Nat) (ks : List S40) (s : Option (List Int)) : Prop :=
 (match readK (readS d) (N - i) s with
  | some (l, s') => some (ks ++ l, s')
  | none => none) = readK (readS d) N s2
theorem rest_none {d N i : Nat} {s2 s : Option (List Int)} {ks : List S40} (h : Rest d N s2 i ks s) (hi : i < N) (hr : readS d s = none) : readK (readS d) N s2 = none := by
 unfold Rest at h
 rw [← h, show N - i = (N - (i + 1)) + 1 by omega, readK, hr]
theorem rest_some {d N i : Nat} {s2 s : Option (List Int)} {ks : List S40} {x : S40} {r : List Int} (h : Rest d N s2 i ks s) (hi : i < N) (hr : readS d s = some (x, r)) : Rest d N s2 (i + 1) (ks ++ [x]) (some r) := by
 unfold Rest at h ⊢
 rw [← h, show N - i = (N - (i + 1)) + 1 by omega, readK, hr]
 dsimp only
 cases readK (readS d) (N - (i + 1)) (some r) with
 | none => rfl
 | some p => obtain ⟨l, s'⟩ := p; simp
theorem rest_end {d N i : Nat} {s2 s : Option (List Int)} {ks : List S40} (h : Rest d N s2 i ks s) (hi : N ≤ i) : readK (readS d) N s2 = some (ks, s) := by
 unfold Rest at h
 rw [← h, show N - i = 0 by omega, readK]
 simp
theorem info_s : (Try.prog.info? 40).map (fun i => (i.zero, i.size, i.bytes)) = some (some (.agg #[.int .i64 0, .string ⟨#[]⟩, .int .i64 0, .int .i64 0, .slice none 0 0]), 5, 64) := by kernel_rfl
theorem blk_step {W W1 : World} {g T b : Nat} {cs : Array Value} (h : Blk W g T cs) (hb : Below b W W1) (hg : g < b) : Blk W1 g T cs := (hb.block g hg).trans h
theorem kids_more {w0 w W w1 : World} {g gt : Nat} {c : Int} {nm : ByteArray} {fr tt : Int} {ks : List S40} {x : S40} {s : Option (List Int)} {v1 : Value} {A3 : Option Addr} {n3 c3 : Nat} {ok : Nat → Prop}
  (hT : Blk W gt 40 #[.int .i64 c, .string nm, .int .i64 fr, .int .i64 tt, .slice A3 n3 c3]) (hR : Kd.R k40 40 W (gt + 1) ok (.slice A3 n3 c3) ks) (hL : Tlv.Left w0 w W g s) (h0 : Blk W w.heap.size 40 #[.int .i64 0, .string ⟨#[]⟩, .int .i64 0, .int .i64 0, .slice none 0 0])
  (hR1 : Kd.R k40 40 w1 (gt + 1) (fun k => k ≠ g ∧ k ≠ gt) v1 (ks ++ [x])) (hb : Below (gt + 1) W w1) (hg : W.grownBy w1 (Value.slice A3 n3 c3).ownBlock) (hw : w0.heap.size ≤ w.heap.size ∧ g < w.heap.size) (hgt : w.heap.size < gt) :
  Blk w1 gt 40 #[.int .i64 c, .string nm, .int .i64 fr, .int .i64 tt, .slice A3 n3 c3] ∧ Kids w0 w (w1.setCell ⟨gt, 4, none⟩ v1) g gt c nm fr tt (ks ++ [x]) s (gt + 1) := by
 have hT1 := blk_step hT hb (by omega)
 have hL1 : Tlv.Left w0 w w1 g s := left_grown hL (hb.mono (by omega)) hg (fun b e => by have := Kd.R_base hR b e; exact ⟨by omega, by omega⟩) hw.1
 refine ⟨hT1, v1, ?_, ?_, ?_, ?_, ?_⟩
 ·obtain ⟨A, c, e⟩ := Kd.R_slice hR1
  exact ⟨_, _, _, e⟩
 ·have h := blk_set hT1 4 v1
  simpa [Blk] using h
 ·exact Kd.R_far hR1 (fun _ hk => hk.2) _
 ·exact left_set1 hL1 hT1 (by simp [NoU8]) (by simp [NoU8]) (by simp [NoU8]) (by simp [NoU8]) (by simp [NoU8]) (by omega) (by omega) (by omega) _
 ·exact blk_far (blk_step h0 hb (by omega)) (by dsimp only; omega) _
theorem kids_out {w0 w W : World} {g gt : Nat} {ks : List S40} {s : Option (List Int)} {v : Value} {ok : Nat → Prop}
  (hR : Kd.R k40 40 W (gt + 1) ok v ks) (hL : Tlv.Left w0 w W g s) (h0 : Blk W w.heap.size 40 #[.int .i64 0, .string ⟨#[]⟩, .int .i64 0, .int .i64 0, .slice none 0 0]) (hw : w0.heap.size ≤ w.heap.size ∧ g < w.heap.size) (hgt : w.heap.size < gt) (a b c d e : Value) :
  Kd.R k40 40 (((((W.setCell ⟨w.heap.size, 0, none⟩ a).setCell ⟨w.heap.size, 1, none⟩ b).setCell ⟨w.heap.size, 2, none⟩ c).setCell ⟨w.heap.size, 3, none⟩ d).setCell ⟨w.heap.size, 4, none⟩ e) w.heap.size (fun _ => True) v ks
  ∧ Tlv.Left w0 w (((((W.setCell ⟨w.heap.size, 0, none⟩ a).setCell ⟨w.heap.size, 1, none⟩ b).setCell ⟨w.heap.size, 2, none⟩ c).setCell ⟨w.heap.size, 3, none⟩ d).setCell ⟨w.heap.size, 4, none⟩ e) g s := by
 have hk := (((((KeepBut.refl W w.heap.size none).set_ 0 a).set_ 1 b).set_ 2 c).set_ 3 d).set_ 4 e
 refine ⟨Kd.R_mono (Kd.R_lower (Kd.R_keep (Kd.R_bound hR) hk (fun k hk => ?_)) (by omega)) (fun _ _ => trivial), left_set5 hL h0 (by simp [NoU8]) (by simp [NoU8]) (by simp [NoU8]) (by simp [NoU8]) (by simp [NoU8]) (by omega) (by omega) (Nat.le_refl _) _ _ _ _ _⟩
 have := hk.2.1; omega

set_option maxHeartbeats 8000000 in
set_option maxRecDepth 100000 in
theorem read_fail (d : Nat) (hd : d ≤ 8) (w0 w : World) (g : Nat) (st : Option (List Int)) (h : RdO w0 w g st) (hB : Below w0.heap.size w0 w) (hst : takeO st 1 = ([], none)) :
  Calls Try.prog 99 #[.pointer (some ⟨g, 0, none⟩), .int .i64 (d : Int)] w (ReadQ w0 w g (readS d st)) := by
 have HE := Aside0.mk (show readS d st = none by
  cases d with
  | zero => rfl
  | succ d => rw [readS, hst])
 have HB := Aside0.mk (below_step hB (below_alloc (Below.refl w.heap.size w) (.cells #[.int .i64 0, .string ⟨#[]⟩, .int .i64 0, .int .i64 0, .slice none 0 0] 40)))
 have HS := Aside0.mk (h.below (below_alloc (Below.refl w.heap.size w) (.cells #[.int .i64 0, .string ⟨#[]⟩, .int .i64 0, .int .i64 0, .slice none 0 0] 40)))
 have H0 := Aside0.mk (show Blk (w.alloc (.cells #[.int .i64 0, .string ⟨#[]⟩, .int .i64 0, .int .i64 0, .slice none 0 0] 40)) w.heap.size 40 #[.int .i64 0, .string ⟨#[]⟩, .int .i64 0, .int .i64 0, .slice none 0 0] from blk_new _ _)
 have HG := Aside0.mk (show w0.heap.size ≤ w.heap.size ∧ g < w.heap.size from ⟨hB.size, h.blk.2.1⟩)
 have HKW := Aside0.mk (KeepBut.of_below (below_alloc (Below.refl w.heap.size w) (.cells #[.int .i64 0, .string ⟨#[]⟩, .int .i64 0, .int .i64 0, .slice none 0 0] 40)) g none)
 have hu40 := Try.underlying40
 have H1 := Aside0.mk hst
 clear h hB hst hd
 go_enter Try.func99, Try.ntmps99
 go_wp2_with (fail)
 refine (takeO_ w0 _ g st 1 HS.out HB.out).mono ?_
 rintro e w1 ⟨v, rfl, ho, hl⟩
 rw [H1.out] at ho hl
 obtain ⟨A5, c5, rfl, _, _⟩ := Ob.reads ho
 have HL := Aside0.mk hl
 have H01 := Aside0.mk (H0.out.keep hl.2.2 (by have := HG.out; omega))
 have y0 := blk_frozen H01.out 0
 have y1 := blk_frozen H01.out 1
 have y2 := blk_frozen H01.out 2
 have y3 := blk_frozen H01.out 3
 have y4 := blk_frozen H01.out 4
 have z0 := H01.out.cell 0
 have z1 := H01.out.cell 1
 have z2 := H01.out.cell 2
 have z3 := H01.out.cell 3
 have z4 := H01.out.cell 4
 simp only [List.getElem?_toArray, List.getElem?_cons_zero, List.getElem?_cons_succ] at z0 z1 z2 z3 z4
 clear ho hl
 go_wp2_with (fail)
 refine (okO w0 _ g none HL.out.1).mono ?_
 rintro e w2 ⟨rfl, rfl⟩
 go_wp2_with (fail)
 refine bodyPost_ret (results_ct rfl _ _ w.heap.size 40 #[.int .i64 0, .string ⟨#[]⟩, .int .i64 0, .int .i64 0, .slice none 0 0] (0, 0) _ rfl (set5 H01.out _ _ _ _ _) Try.underlying40 rfl (by kernel_rfl)) rfl ?_
 rw [HE.out]
 exact ⟨0, ⟨#[]⟩, 0, 0, none, 0, 0, _, rfl, left_set5 ⟨HL.out.1, HL.out.2.1, HKW.out.trans HL.out.2.2 (.inl rfl)⟩ H01.out (by simp [NoU8]) (by simp [NoU8]) (by simp [NoU8]) (by simp [NoU8]) (by simp [NoU8]) (by have := HG.out; omega) HG.out.1 (Nat.le_refl _) _ _ _ _ _⟩

set_option maxHeartbeats 8000000 in
set_option maxRecDepth 100000 in
theorem read_zero (w0 w : World) (g : Nat) (c : Int) (r : List Int) (h : RdO w0 w g (some (c :: r))) (hB : Below w0.heap.size w0 w) :
  Calls Try.prog 99 #[.pointer (some ⟨g, 0, none⟩), .int .i64 0] w (ReadQ w0 w g (readS 0 (some (c :: r)))) := by
 have HB := Aside0.mk (below_step hB (below_alloc (Below.refl w.heap.size w) (.cells #[.int .i64 0, .string ⟨#[]⟩, .int .i64 0, .int .i64 0, .slice none 0 0] 40)))
 have HS := Aside0.mk (h.below (below_alloc (Below.refl w.heap.size w) (.cells #[.int .i64 0, .string ⟨#[]⟩, .int .i64 0, .int .i64 0, .slice none 0 0] 40)))
 have H0 := Aside0.mk (show Blk (w.alloc (.cells #[.int .i64 0, .string ⟨#[]⟩, .int .i64 0, .int .i64 0, .slice none 0 0] 40)) w.heap.size 40 #[.int .i64 0, .string ⟨#[]⟩, .int .i64 0, .int .i64 0, .slice none 0 0] from blk_new _ _)
 have HG := Aside0.mk (show w0.heap.size ≤ w.heap.size ∧ g < w.heap.size from ⟨hB.size, h.blk.2.1⟩)
 have HKW := Aside0.mk (KeepBut.of_below (below_alloc (Below.refl w.heap.size w) (.cells #[.int .i64 0, .string ⟨#[]⟩, .int .i64 0, .int .i64 0, .slice none 0 0] 40)) g none)
 have hu40 := Try.underlying40
 clear h hB
 go_enter Try.func99, Try.ntmps99
 go_wp2_with (fail)
 refine (takeO_ w0 _ g (some (c :: r)) 1 HS.out HB.out).mono ?_
 rintro e w1 ⟨v, rfl, ho, hl⟩
 rw [take1] at ho hl
 obtain ⟨A5, c5, rfl, hl5, hr5⟩ := Ob.reads ho
 obtain ⟨ad5, rfl, hc5⟩ := Rb.at0 hr5
 have HL := Aside0.mk (show Tlv.Left w0 w w1 g (some r) from ⟨hl.1, hl.2.1, HKW.out.trans hl.2.2 (.inl rfl)⟩)
 have H01 := Aside0.mk (H0.out.keep hl.2.2 (by have := HG.out; omega))
 clear ho hl hl5 hr5
 have y0 := blk_frozen H01.out 0
 have y1 := blk_frozen H01.out 1
 have y2 := blk_frozen H01.out 2
 have y3 := blk_frozen H01.out 3
 have y4 := blk_frozen H01.out 4
 have z0 := H01.out.cell 0
 have z1 := H01.out.cell 1
 have z2 := H01.out.cell 2
 have z3 := H01.out.cell 3
 have z4 := H01.out.cell 4
 simp only [List.getElem?_toArray, List.getElem?_cons_zero, List.getElem?_cons_succ] at z0 z1 z2 z3 z4
 go_wp2_with (fail)
 refine (okO w0 _ g (some r) HL.out.1).mono ?_
 rintro e w2 ⟨rfl, rfl⟩
 go_wp2_with (fail)
 refine bodyPost_ret (results_ct rfl _ _ w.heap.size 40 #[.int .i64 0, .string ⟨#[]⟩, .int .i64 0, .int .i64 0, .slice none 0 0] (0, 0) _ rfl (set5 H01.out _ _ _ _ _) Try.underlying40 rfl (by kernel_rfl)) rfl ?_
 rw [readS]
 exact ⟨0, ⟨#[]⟩, 0, 0, none, 0, 0, _, rfl, left_set5 HL.out H01.out (by simp [NoU8]) (by simp [NoU8]) (by simp [NoU8]) (by simp [NoU8]) (by simp [NoU8]) (by have := HG.out; omega) HG.out.1 (Nat.le_refl _) _ _ _ _ _⟩

theorem cnt_rng (st : Option (List Int)) {m : Int} (hm : 0 ≤ m) (hu : ∀ bs, st = some bs → U8 bs) : 0 ≤ (countO st m).1 ∧ (countO st m).1 ≤ m := by
 unfold countO
 split
 ·exact ⟨Int.le_refl _, hm⟩
 ·next h => exact ⟨(numO_range hu).1, by omega⟩
theorem size_alloc_ (w : World) (o : Obj) : (w.alloc o).heap.size = w.heap.size + 1 := by simp

set_option maxHeartbeats 8000000 in
set_option maxRecDepth 100000 in
theorem read_N (d : Nat) (hd : d + 1 ≤ 8) (ih : ∀ w0 w g st, RdO w0 w g st → Below w0.heap.size w0 w → Calls Try.prog 99 #[.pointer (some ⟨g, 0, none⟩), .int .i64 (d : Int)] w (ReadQ w0 w g (readS d st))) (w0 w : World) (g : Nat) (c : Int) (r : List Int) (h : RdO w0 w g (some (c :: r))) (hB : Below w0.heap.size w0 w) (hn : namedB c = true) :
  Calls Try.prog 99 #[.pointer (some ⟨g, 0, none⟩), .int .i64 ((d + 1 : Nat) : Int)] w (ReadQ w0 w g (readS (d + 1) (some (c :: r)))) := by
 have HE := Aside0.mk (show readS (d + 1) (some (c :: r)) = match readK (readS d) (Int.toNat (leastB c)) (textO (some r) 16).2 with
   | some (ks, some s) => some (⟨c, (strOfNums (textO (some r) 16).1), 0, 0, ks⟩, s)
   | _ => none by
  rw [readS, take1]
  simp only [List.getD_cons_zero]
  unfold headR
  rw [if_pos hn]
  all_goals rfl)
 have HIH := Aside0.mk ih
 have HD8 := Aside0.mk hd
 have HU := Aside0.mk h.u8
 have hc0 := (show 0 ≤ c ∧ c ≤ 255 from h.u8.1.head).1
 have hc1 := (show 0 ≤ c ∧ c ≤ 255 from h.u8.1.head).2
 have z9 : (((d + 1 : Nat) : Int) == 0) = false := by rw [beq_eq_false_iff_ne]; omega
 have HW1 := Aside0.mk (show wrap64 (((d + 1 : Nat) : Int) - 1) = (d : Int) from by rw [Aid.w64 (by omega) (by omega)]; omega)
 have HNM := Aside0.mk hn
 have HB := Aside0.mk (below_step hB (below_alloc (Below.refl w.heap.size w) (.cells #[.int .i64 0, .string ⟨#[]⟩, .int .i64 0, .int .i64 0, .slice none 0 0] 40)))
 have HS := Aside0.mk (h.below (below_alloc (Below.refl w.heap.size w) (.cells #[.int .i64 0, .string ⟨#[]⟩, .int .i64 0, .int .i64 0, .slice none 0 0] 40)))
 have H0 := Aside0.mk (show Blk (w.alloc (.cells #[.int .i64 0, .string ⟨#[]⟩, .int .i64 0, .int .i64 0, .slice none 0 0] 40)) w.heap.size 40 #[.int .i64 0, .string ⟨#[]⟩, .int .i64 0, .int .i64 0, .slice none 0 0] from blk_new _ _)
 have HG := Aside0.mk (show w0.heap.size ≤ w.heap.size ∧ g < w.heap.size from ⟨hB.size, h.blk.2.1⟩)
 have HKW := Aside0.mk (KeepBut.of_below (below_alloc (Below.refl w.heap.size w) (.cells #[.int .i64 0, .string ⟨#[]⟩, .int .i64 0, .int .i64 0, .slice none 0 0] 40)) g none)
 have hu40 := Try.underlying40
 obtain ⟨D, hD⟩ : ∃ D : Int, ((d + 1 : Nat) : Int) = D := ⟨_, rfl⟩
 rw [hD] at z9 HW1 ⊢
 clear h hB hd hD ih hn
 go_enter Try.func99, Try.ntmps99
 go_wp2_with (fail)
 refine (takeO_ w0 _ g (some (c :: r)) 1 HS.out HB.out).mono ?_
 rintro e w1 ⟨v, rfl, ho, hl⟩
 rw [take1] at ho hl
 obtain ⟨A5, c5, rfl, hl5, hr5⟩ := Ob.reads ho
 obtain ⟨ad5, rfl, hc5⟩ := Rb.at0 hr5
 have HL := Aside0.mk (show Tlv.Left w0 w w1 g (some r) from ⟨hl.1, hl.2.1, HKW.out.trans hl.2.2 (.inl rfl)⟩)
 have H01 := Aside0.mk (H0.out.keep hl.2.2 (by have := HG.out; omega))
 clear ho hl hl5 hr5
 go_wp2_with (fail)
 refine (okO w0 _ g (some r) HL.out.1).mono ?_
 rintro e w2 ⟨rfl, rfl⟩
 go_wp2_with (fail)
 refine (scope_kids.calls c (leastB c) (mostB c) _ (kids_v c)).mono ?_
 rintro e w3 ⟨rfl, hd⟩
 have hb := drawn_b hd
 have HL_3 := Aside0.mk (left_below (left_below HL.out (below_alloc (Below.refl _ _) _)) hb)
 have H0_3 := Aside0.mk ((H01.out.alloc (.cells #[.int .i64 c, .string ⟨#[]⟩, .int .i64 0, .int .i64 0, .slice none 0 0] 40)).below hb)
 have HT_3 := Aside0.mk ((show Blk (w1.alloc (.cells #[.int .i64 c, .string ⟨#[]⟩, .int .i64 0, .int .i64 0, .slice none 0 0] 40)) w1.heap.size 40 #[.int .i64 c, .string ⟨#[]⟩, .int .i64 0, .int .i64 0, .slice none 0 0] from blk_new _ _).below hb)
 clear hb hd
 have x0 := HT_3.out.cell 0
 have x1 := HT_3.out.cell 1
 have x2 := HT_3.out.cell 2
 have x3 := HT_3.out.cell 3
 have x4 := HT_3.out.cell 4
 simp only [List.getElem?_toArray, List.getElem?_cons_zero, List.getElem?_cons_succ] at x0 x1 x2 x3 x4
 go_wp2_with (fail)
 refine (scope_named.calls c (namedB c) _ (named_v c)).mono ?_
 rintro e w4 ⟨rfl, hd⟩
 rw [HNM.out]
 have hb := drawn_b hd
 have HL_4 := Aside0.mk (left_below HL_3.out hb)
 have H0_4 := Aside0.mk (H0_3.out.below hb)
 have HT_4 := Aside0.mk (HT_3.out.below hb)
 clear hb hd x0 x1 x2 x3 x4
 have x0 := HT_4.out.cell 0
 have x1 := HT_4.out.cell 1
 have x2 := HT_4.out.cell 2
 have x3 := HT_4.out.cell 3
 have x4 := HT_4.out.cell 4
 simp only [List.getElem?_toArray, List.getElem?_cons_zero, List.getElem?_cons_succ] at x0 x1 x2 x3 x4
 go_wp2_with (fail)
 refine (textO_ w0 _ g (some r) 16 HL_4.out.1 HL_4.out.2.1 (by decide)).mono ?_
 rintro e w5 ⟨v, rfl, ho, hl⟩
 obtain ⟨A6, c6, rfl, hl6, hr6⟩ := Ob.reads ho
 have hcv := Kd.C_string (P := Try.prog) (c := c6) Try.underlying27 Try.underlying5 Try.underlying9 hr6
 have HL_5 := Aside0.mk (HL_4.out.trans hl)
 have H0_5 := Aside0.mk (H0_4.out.keep hl.2.2 (by have := HG.out; omega))
 have HT_5 := Aside0.mk (HT_4.out.keep hl.2.2 (by have := HG.out; have := HL.out.2.2.1; omega))
 clear ho hl hl6 hr6 x0 x1 x2 x3 x4
 have x0 := HT_5.out.cell 0
 have x1 := HT_5.out.cell 1
 have x2 := HT_5.out.cell 2
 have x3 := HT_5.out.cell 3
 have x4 := HT_5.out.cell 4
 simp only [List.getElem?_toArray, List.getElem?_cons_zero, List.getElem?_cons_succ] at x0 x1 x2 x3 x4
 have f0 := blk_frozen HT_5.out 0
 have f1 := blk_frozen HT_5.out 1
 have f2 := blk_frozen HT_5.out 2
 have f3 := blk_frozen HT_5.out 3
 have f4 := blk_frozen HT_5.out 4
 go_upto_region 13 with (fail)
 obtain ⟨W, hW⟩ : ∃ W, w5.setCell ⟨w1.heap.size, 1, none⟩ (.string (strOfNums (textO (some r) 16).1)) = W := ⟨_, rfl⟩
 have HKD := Aside0.mk (show Kids w0 w W g w1.heap.size c (strOfNums (textO (some r) 16).1) 0 0 [] (textO (some r) 16).2 (w1.heap.size + 1) by rw [← hW]; exact ⟨.slice none 0 0, ⟨_, _, _, rfl⟩, by have h := blk_set HT_5.out 1 (.string (strOfNums (textO (some r) 16).1)); simpa [Blk] using h, Kd.R_nil _ _ _ _ _, left_set1 HL_5.out HT_5.out (by simp [NoU8]) (by simp [NoU8]) (by simp [NoU8]) (by simp [NoU8]) (by simp [NoU8]) (by have := HG.out; have := HL.out.2.2.1; omega) (by have := HG.out; have := HL.out.2.2.1; omega) HL.out.2.2.1 _, blk_far H0_5.out (by have := HG.out; have := HL.out.2.2.1; have := H01.out.lt; dsimp only; omega) _⟩)
 rw [hW]
 have HGT := Aside0.mk (show w.heap.size < w1.heap.size by have := HL.out.2.2.1; have := H01.out.lt; omega)
 obtain ⟨gt, hgt⟩ : ∃ k, w1.heap.size = k := ⟨_, rfl⟩
 rw [hgt] at HKD HGT ⊢
 have hnr : 0 ≤ (leastB c) ∧ (leastB c) ≤ 24 := by unfold leastB; repeat' split <;> omega
 obtain ⟨N, hN⟩ : ∃ N : Nat, (leastB c) = (N : Int) := ⟨Int.toNat (leastB c), by omega⟩
 have HNL := Aside0.mk (show N ≤ 24 by omega)
 rw [hN, Int.toNat_natCast] at HE
 rw [hN]
 obtain ⟨nv, hnv⟩ : ∃ k, (strOfNums (textO (some r) 16).1) = k := ⟨_, rfl⟩
 obtain ⟨s2, hs2⟩ : ∃ k, (textO (some r) 16).2 = k := ⟨_, rfl⟩
 simp only [hnv, hs2] at HKD HE ⊢
 have hw9 := HW1.out
 clear hW hgt hN hnr hnv hs2
 go_wp2
 go_loopg [63] N (fun gf s63 wx => ∃ (i : Nat) (ks : List S40) (s : Option (List Int)) (wy : World), wy = wx ∧ s63 = .int .i64 (i : Int) ∧ i + gf = N ∧ ks.length = i ∧ Kids w0 w wy g gt c nv 0 0 ks s (gt + 1) ∧ Rest d N s2 i ks s)
 case atStart => exact ⟨0, [], s2, _, rfl, rfl, by omega, rfl, HKD.out, by simp [Rest]; cases readK (readS d) N s2 <;> simp⟩
 case round =>
  obtain ⟨i, ks, s, wx, rfl, rfl, hi, hkl, ⟨v3, ⟨A3, n3, c3, rfl⟩, hT, hR, hL, h0⟩, hRe⟩ := hrel
  have HQ := Aside0.mk hi; have HLK := Aside0.mk hkl; have HT := Aside0.mk hT; have HR := Aside0.mk hR; have HLL := Aside0.mk hL; have H0 := Aside0.mk h0; have HRE := Aside0.mk hRe
  clear hi hkl hT hR hL h0 hRe HKD
  by_cases hlt : i < N
  ·have hl1 : decide ((i : Int) < (N : Int)) = true := decide_eq_true (by omega)
   have hw1 : wrap64 ((i : Int) + 1) = ((i + 1 : Nat) : Int) := by have := HNL.out; rw [Aid.w64 (by omega) (by omega)]; omega
   have hc := HIH.out w0 wx g s HLL.out.1 HLL.out.2.1
   cases hr : readS d s with
   | none =>
    rw [hr] at hc
    have HC := Aside0.mk hc
    have HEE := Aside0.mk (HE.out.trans (by rw [rest_none HRE.out hlt hr]))
    clear hc hr
    go_wp2_with (fail)
    refine HC.out.mono ?_
    rintro e w' ⟨y0, y1, y2, y3, B3, m3, e3, s', rfl, hl'⟩
    have HL' := Aside0.mk (HLL.out.trans hl')
    have H0' := Aside0.mk (H0.out.keep hl'.2.2 (by have := HG.out; omega))
    have y0_ := fun o => blk_frozen (H0'.out.alloc o) 0
    have y1_ := fun o => blk_frozen (H0'.out.alloc o) 1
    have y2_ := fun o => blk_frozen (H0'.out.alloc o) 2
    have y3_ := fun o => blk_frozen (H0'.out.alloc o) 3
    have y4_ := fun o => blk_frozen (H0'.out.alloc o) 4
    have z0_ := fun o => (H0'.out.alloc o).cell 0
    have z1_ := fun o => (H0'.out.alloc o).cell 1
    have z2_ := fun o => (H0'.out.alloc o).cell 2
    have z3_ := fun o => (H0'.out.alloc o).cell 3
    have z4_ := fun o => (H0'.out.alloc o).cell 4
    simp only [List.getElem?_toArray, List.getElem?_cons_zero, List.getElem?_cons_succ] at z0_ z1_ z2_ z3_ z4_
    clear hl'
    go_wp2_with (fail)
    refine bodyPost_ret (results_ct rfl _ _ w.heap.size 40 #[.int .i64 0, .string ⟨#[]⟩, .int .i64 0, .int .i64 0, .slice none 0 0] (0, 0) _ rfl (set5 (H0'.out.alloc _) _ _ _ _ _) Try.underlying40 rfl (by kernel_rfl)) rfl ?_
    rw [HEE.out]
    exact ⟨0, ⟨#[]⟩, 0, 0, none, 0, 0, _, rfl, left_set5 (left_below HL'.out (below_alloc (Below.refl _ _) _)) (H0'.out.alloc _) (by simp [NoU8]) (by simp [NoU8]) (by simp [NoU8]) (by simp [NoU8]) (by simp [NoU8]) (by have := HG.out; omega) HG.out.1 (Nat.le_refl _) _ _ _ _ _⟩
   | some p =>
    obtain ⟨x, r'⟩ := p
    rw [hr] at hc
    have HC := Aside0.mk hc
    have HRS := Aside0.mk (rest_some HRE.out hlt hr)
    clear hc hr
    go_wp2_with (fail)
    refine HC.out.mono ?_
    rintro e w' ⟨q3_, rfl, ho3, hl'⟩
    obtain ⟨B3, e3, rfl⟩ := Kd.R_slice ho3
    have HL' := Aside0.mk (left_below (HLL.out.trans hl') (below_alloc (Below.refl _ _) (.cells #[.int .i64 x.f0, .string x.f1, .int .i64 x.f2, .int .i64 x.f3, .slice B3 x.f4.length e3] 40)))
    have H0' := Aside0.mk ((H0.out.keep hl'.2.2 (by have := HG.out; omega)).alloc (.cells #[.int .i64 x.f0, .string x.f1, .int .i64 x.f2, .int .i64 x.f3, .slice B3 x.f4.length e3] 40))
    have HT' := Aside0.mk ((HT.out.keep hl'.2.2 (by have := HG.out; have := HGT.out; omega)).alloc (.cells #[.int .i64 x.f0, .string x.f1, .int .i64 x.f2, .int .i64 x.f3, .slice B3 x.f4.length e3] 40))
    have HR' := Aside0.mk (Kd.R_alloc (Kd.R_keep HR.out hl'.2.2 (fun _ h => h.1)) (.cells #[.int .i64 x.f0, .string x.f1, .int .i64 x.f2, .int .i64 x.f3, .slice B3 x.f4.length e3] 40))
    have HM := Aside0.mk (k40_mkM _ (gt + 1) (fun k => wx.heap.size ≤ k) x (Kd.R_mono (Kd.R_lower (Kd.R_bound (Kd.R_alloc ho3 (.cells #[.int .i64 x.f0, .string x.f1, .int .i64 x.f2, .int .i64 x.f3, .slice B3 x.f4.length e3] 40))) (by have := HT.out.lt; omega)) (fun _ h => h.2.1)))
    have HOK := Aside0.mk (show ∀ k, wx.heap.size ≤ k → (k ≠ g ∧ k ≠ gt) ∧ some k ≠ (Value.slice A3 n3 c3).ownBlock from fun k hk => ⟨⟨by have := HG.out; have := HT.out.lt; have := HGT.out; omega, by have := HT.out.lt; omega⟩, fun e => by have := Kd.R_lt HR.out k e.symm; omega⟩)
    have HSZ := Aside0.mk (show gt + 1 ≤ (w'.alloc (.cells #[.int .i64 x.f0, .string x.f1, .int .i64 x.f2, .int .i64 x.f3, .slice B3 x.f4.length e3] 40)).heap.size from HT'.out.lt)
    have HFR := Aside0.mk (show ∀ k, (w'.alloc (.cells #[.int .i64 x.f0, .string x.f1, .int .i64 x.f2, .int .i64 x.f3, .slice B3 x.f4.length e3] 40)).heap.size ≤ k → k ≠ g ∧ k ≠ gt from fun k hk => ⟨by have := HG.out; have := HGT.out; have := HSZ.out; omega, by have := HSZ.out; omega⟩)
    have HLN := Aside0.mk (show (ks.length + 1) * 64 ≤ 140737488355328 by have := HLK.out; have := HQ.out; have := HNL.out; omega)
    have y_0 := HT'.out.cell 0
    have y_1 := HT'.out.cell 1
    have y_2 := HT'.out.cell 2
    have y_3 := HT'.out.cell 3
    have y_4 := HT'.out.cell 4
    simp only [List.getElem?_toArray, List.getElem?_cons_zero, List.getElem?_cons_succ] at y_0 y_1 y_2 y_3 y_4
    clear ho3 hl'
    go_wp2_with (first | ((with_reducible refine gate_builtin (b := .append) (xs := #[.tmp 76, .tmp 78]) rfl ?_); at_builtin; go_must (refine Kd.R_append k40 (gt + 1) rfl (.tmp 76) (.tmp 78) 38 40 (.agg #[.int .i64 0, .string ⟨#[]⟩, .int .i64 0, .int .i64 0, .slice none 0 0]) 64 rfl Try.underlying38 info_s rfl (by decide) (by decide) _ ks x _ (fun k => k ≠ g ∧ k ≠ gt) (fun k => wx.heap.size ≤ k) rfl (by rw [size_alloc_]; rfl) HM.out HOK.out HFR.out HR'.out (Below.refl _ _) HSZ.out HLN.out ?_); intro v1 w1' hr1 hb1 hg1 _; obtain ⟨A9, c9, rfl⟩ := Kd.R_slice hr1; have HMORE := Aside0.mk (kids_more HT'.out HR'.out HL'.out H0'.out hr1 hb1 hg1 HG.out HGT.out); have y3 := blk_frozen HMORE.out.1 4; have y4 := HMORE.out.1.cell 4; simp only [List.getElem?_toArray, List.getElem?_cons_zero, List.getElem?_cons_succ] at y4; clear hr1 hb1 hg1))
    go_roundg (N - (i + 1))
    case measure => have := HQ.out; omega
    case rel => exact ⟨i + 1, ks ++ [x], some r', _, rfl, by first | rfl | rw [hw1], by omega, by simp [HLK.out], by have hm := HMORE.out.2; rw [List.length_append] at hm; exact hm, HRS.out⟩
  ·have hl1 : decide ((i : Int) < (N : Int)) = false := decide_eq_false (by omega)
   have HEE := Aside0.mk (HE.out.trans (by rw [rest_end HRE.out (by omega)]))
   have HKO := Aside0.mk (kids_out HR.out HLL.out H0.out HG.out HGT.out)
   have HTD := Aside0.mk (HT.out.below (below_drew1 (Below.refl _ _)))
   have H0D := Aside0.mk (H0.out.below (below_drew1 (Below.refl _ _)))
   have x0 := HTD.out.cell 0
   have x1 := HTD.out.cell 1
   have x2 := HTD.out.cell 2
   have x3 := HTD.out.cell 3
   have x4 := HTD.out.cell 4
   simp only [List.getElem?_toArray, List.getElem?_cons_zero, List.getElem?_cons_succ] at x0 x1 x2 x3 x4
   have y0 := blk_frozen H0D.out 0
   have y1 := blk_frozen H0D.out 1
   have y2 := blk_frozen H0D.out 2
   have y3 := blk_frozen H0D.out 3
   have y4 := blk_frozen H0D.out 4
   have z0 := H0D.out.cell 0
   have z1 := H0D.out.cell 1
   have z2 := H0D.out.cell 2
   have z3 := H0D.out.cell 3
   have z4 := H0D.out.cell 4
   simp only [List.getElem?_toArray, List.getElem?_cons_zero, List.getElem?_cons_succ] at z0 z1 z2 z3 z4
   have X0 := HT.out.cell 0
   have X1 := HT.out.cell 1
   have X2 := HT.out.cell 2
   have X3 := HT.out.cell 3
   have X4 := HT.out.cell 4
   simp only [List.getElem?_toArray, List.getElem?_cons_zero, List.getElem?_cons_succ] at X0 X1 X2 X3 X4
   have Y0 := blk_frozen H0.out 0
   have Y1 := blk_frozen H0.out 1
   have Y2 := blk_frozen H0.out 2
   have Y3 := blk_frozen H0.out 3
   have Y4 := blk_frozen H0.out 4
   have Z0 := H0.out.cell 0
   have Z1 := H0.out.cell 1
   have Z2 := H0.out.cell 2
   have Z3 := H0.out.cell 3
   have Z4 := H0.out.cell 4
   simp only [List.getElem?_toArray, List.getElem?_cons_zero, List.getElem?_cons_succ] at Z0 Z1 Z2 Z3 Z4
   go_wp2
   cases s with
   | none =>
    go_region_law (go_simp; go_at_call 89; refine (okO w0 _ g none (RdO.below HLL.out.1 (below_drew1 (Below.refl _ _)))).mono ?_; rintro e w2 ⟨rfl, rfl⟩)
    all_goals
     go_wp2_with (fail)
     refine bodyPost_ret (results_ct rfl _ _ w.heap.size 40 #[.int .i64 c, .string nv, .int .i64 0, .int .i64 0, .slice A3 n3 c3] (0, 0) _ rfl ((set5 H0.out _ _ _ _ _).below (below_drew1 (Below.refl _ _))) Try.underlying40 rfl (by kernel_rfl)) rfl ?_
     rw [HEE.out]
     exact ⟨c, nv, 0, 0, A3, n3, c3, none, rfl, left_below (HKO.out _ _ _ _ _).2 (below_drew1 (Below.refl _ _))⟩
   | some r' =>
    go_region_law (go_simp; go_at_call 89; refine (okO w0 _ g (some r') (RdO.below HLL.out.1 (below_drew1 (Below.refl _ _)))).mono ?_; rintro e w2 ⟨rfl, rfl⟩)
    all_goals
     go_wp2_with (fail)
     refine bodyPost_ret (results_ct rfl _ _ w.heap.size 40 #[.int .i64 c, .string nv, .int .i64 0, .int .i64 0, .slice A3 n3 c3] (0, 0) _ rfl ((set5 H0.out _ _ _ _ _).below (below_drew1 (Below.refl _ _))) Try.underlying40 rfl (by kernel_rfl)) rfl ?_
     rw [HEE.out]
     exact ⟨.slice A3 n3 c3, rfl, Kd.R_drew (HKO.out _ _ _ _ _).1, left_below (HKO.out _ _ _ _ _).2 (below_drew1 (Below.refl _ _))⟩

set_option maxHeartbeats 8000000 in
set_option maxRecDepth 100000 in
theorem read_T (d : Nat) (hd : d + 1 ≤ 8) (ih : ∀ w0 w g st, RdO w0 w g st → Below w0.heap.size w0 w → Calls Try.prog 99 #[.pointer (some ⟨g, 0, none⟩), .int .i64 (d : Int)] w (ReadQ w0 w g (readS d st))) (w0 w : World) (g : Nat) (c : Int) (r : List Int) (h : RdO w0 w g (some (c :: r))) (hB : Below w0.heap.size w0 w) (hn : namedB c = false) (h5 : c = 5) :
  Calls Try.prog 99 #[.pointer (some ⟨g, 0, none⟩), .int .i64 ((d + 1 : Nat) : Int)] w (ReadQ w0 w g (readS (d + 1) (some (c :: r)))) := by
 have HE := Aside0.mk (show readS (d + 1) (some (c :: r)) = match readK (readS d) (Int.toNat (leastB c)) (countO (countO (some r) 1099511627776).2 1099511627776).2 with
   | some (ks, some s) => some (⟨c, emptyS, (countO (some r) 1099511627776).1, (countO (countO (some r) 1099511627776).2 1099511627776).1, ks⟩, s)
   | _ => none by
  rw [readS, take1]
  simp only [List.getD_cons_zero]
  unfold headR
  rw [if_neg (by rw [hn]; decide), if_pos h5]
  all_goals rfl)
 have HIH := Aside0.mk ih
 have HD8 := Aside0.mk hd
 have HU := Aside0.mk h.u8
 have hc0 := (show 0 ≤ c ∧ c ≤ 255 from h.u8.1.head).1
 have hc1 := (show 0 ≤ c ∧ c ≤ 255 from h.u8.1.head).2
 have z9 : (((d + 1 : Nat) : Int) == 0) = false := by rw [beq_eq_false_iff_ne]; omega
 have HW1 := Aside0.mk (show wrap64 (((d + 1 : Nat) : Int) - 1) = (d : Int) from by rw [Aid.w64 (by omega) (by omega)]; omega)
 have HNM := Aside0.mk hn
 have z5 : (c == 5) = true := by simp [h5]
 have HB := Aside0.mk (below_step hB (below_alloc (Below.refl w.heap.size w) (.cells #[.int .i64 0, .string ⟨#[]⟩, .int .i64 0, .int .i64 0, .slice none 0 0] 40)))
 have HS := Aside0.mk (h.below (below_alloc (Below.refl w.heap.size w) (.cells #[.int .i64 0, .string ⟨#[]⟩, .int .i64 0, .int .i64 0, .slice none 0 0] 40)))
 have H0 := Aside0.mk (show Blk (w.alloc (.cells #[.int .i64 0, .string ⟨#[]⟩, .int .i64 0, .int .i64 0, .slice none 0 0] 40)) w.heap.size 40 #[.int .i64 0, .string ⟨#[]⟩, .int .i64 0, .int .i64 0, .slice none 0 0] from blk_new _ _)
 have HG := Aside0.mk (show w0.heap.size ≤ w.heap.size ∧ g < w.heap.size from ⟨hB.size, h.blk.2.1⟩)
 have HKW := Aside0.mk (KeepBut.of_below (below_alloc (Below.refl w.heap.size w) (.cells #[.int .i64 0, .string ⟨#[]⟩, .int .i64 0, .int .i64 0, .slice none 0 0] 40)) g none)
 have hu40 := Try.underlying40
 obtain ⟨D, hD⟩ : ∃ D : Int, ((d + 1 : Nat) : Int) = D := ⟨_, rfl⟩
 rw [hD] at z9 HW1 ⊢
 clear h hB hd hD ih hn h5
 go_enter Try.func99, Try.ntmps99
 go_wp2_with (fail)
 refine (takeO_ w0 _ g (some (c :: r)) 1 HS.out HB.out).mono ?_
 rintro e w1 ⟨v, rfl, ho, hl⟩
 rw [take1] at ho hl
 obtain ⟨A5, c5, rfl, hl5, hr5⟩ := Ob.reads ho
 obtain ⟨ad5, rfl, hc5⟩ := Rb.at0 hr5
 have HL := Aside0.mk (show Tlv.Left w0 w w1 g (some r) from ⟨hl.1, hl.2.1, HKW.out.trans hl.2.2 (.inl rfl)⟩)
 have H01 := Aside0.mk (H0.out.keep hl.2.2 (by have := HG.out; omega))
 clear ho hl hl5 hr5
 go_wp2_with (fail)
 refine (okO w0 _ g (some r) HL.out.1).mono ?_
 rintro e w2 ⟨rfl, rfl⟩
 go_wp2_with (fail)
 refine (scope_kids.calls c (leastB c) (mostB c) _ (kids_v c)).mono ?_
 rintro e w3 ⟨rfl, hd⟩
 have hb := drawn_b hd
 have HL_3 := Aside0.mk (left_below (left_below HL.out (below_alloc (Below.refl _ _) _)) hb)
 have H0_3 := Aside0.mk ((H01.out.alloc (.cells #[.int .i64 c, .string ⟨#[]⟩, .int .i64 0, .int .i64 0, .slice none 0 0] 40)).below hb)
 have HT_3 := Aside0.mk ((show Blk (w1.alloc (.cells #[.int .i64 c, .string ⟨#[]⟩, .int .i64 0, .int .i64 0, .slice none 0 0] 40)) w1.heap.size 40 #[.int .i64 c, .string ⟨#[]⟩, .int .i64 0, .int .i64 0, .slice none 0 0] from blk_new _ _).below hb)
 clear hb hd
 have x0 := HT_3.out.cell 0
 have x1 := HT_3.out.cell 1
 have x2 := HT_3.out.cell 2
 have x3 := HT_3.out.cell 3
 have x4 := HT_3.out.cell 4
 simp only [List.getElem?_toArray, List.getElem?_cons_zero, List.getElem?_cons_succ] at x0 x1 x2 x3 x4
 go_wp2_with (fail)
 refine (scope_named.calls c (namedB c) _ (named_v c)).mono ?_
 rintro e w4 ⟨rfl, hd⟩
 rw [HNM.out]
 have hb := drawn_b hd
 have HL_4 := Aside0.mk (left_below HL_3.out hb)
 have H0_4 := Aside0.mk (H0_3.out.below hb)
 have HT_4 := Aside0.mk (HT_3.out.below hb)
 clear hb hd x0 x1 x2 x3 x4
 have x0 := HT_4.out.cell 0
 have x1 := HT_4.out.cell 1
 have x2 := HT_4.out.cell 2
 have x3 := HT_4.out.cell 3
 have x4 := HT_4.out.cell 4
 simp only [List.getElem?_toArray, List.getElem?_cons_zero, List.getElem?_cons_succ] at x0 x1 x2 x3 x4
 go_wp2_with (fail)
 refine (countO_ w0 _ g (some r) 1099511627776 HL_4.out.1 HL_4.out.2.1 (by decide)).mono ?_
 rintro e w5 ⟨rfl, hl⟩
 have HL_5 := Aside0.mk (HL_4.out.trans hl)
 have H0_5 := Aside0.mk (H0_4.out.keep hl.2.2 (by have := HG.out; omega))
 have HT_5 := Aside0.mk (HT_4.out.keep hl.2.2 (by have := HG.out; have := HL.out.2.2.1; omega))
 clear hl x0 x1 x2 x3 x4
 have x0 := HT_5.out.cell 0
 have x1 := HT_5.out.cell 1
 have x2 := HT_5.out.cell 2
 have x3 := HT_5.out.cell 3
 have x4 := HT_5.out.cell 4
 simp only [List.getElem?_toArray, List.getElem?_cons_zero, List.getElem?_cons_succ] at x0 x1 x2 x3 x4
 have f0 := blk_frozen HT_5.out 0
 have f1 := blk_frozen HT_5.out 1
 have f2 := blk_frozen HT_5.out 2
 have f3 := blk_frozen HT_5.out 3
 have f4 := blk_frozen HT_5.out 4
 go_wp2_with (fail)
 have HT_6 := Aside0.mk (show Blk (w5.setCell ⟨w1.heap.size, 2, none⟩ (.int .i64 (countO (some r) 1099511627776).1)) w1.heap.size 40 #[.int .i64 c, .string ⟨#[]⟩, .int .i64 (countO (some r) 1099511627776).1, .int .i64 0, .slice none 0 0] from by have h := blk_set HT_5.out 2 (.int .i64 (countO (some r) 1099511627776).1); simpa [Blk] using h)
 have HL_6 := Aside0.mk (left_set1 (j := 2) HL_5.out HT_5.out (by simp [NoU8]) (by simp [NoU8]) (by simp [NoU8]) (by simp [NoU8]) (by simp [NoU8]) (by have := HG.out; have := HL.out.2.2.1; omega) (by have := HG.out; have := HL.out.2.2.1; omega) HL.out.2.2.1 (.int .i64 (countO (some r) 1099511627776).1))
 have H0_6 := Aside0.mk (show Blk (w5.setCell ⟨w1.heap.size, 2, none⟩ (.int .i64 (countO (some r) 1099511627776).1)) w.heap.size 40 #[.int .i64 0, .string ⟨#[]⟩, .int .i64 0, .int .i64 0, .slice none 0 0] from blk_far H0_5.out (by have := HG.out; have := HL.out.2.2.1; have := H01.out.lt; dsimp only; omega) _)
 clear x0 x1 x2 x3 x4 f0 f1 f2 f3 f4
 refine (countO_ w0 _ g (countO (some r) 1099511627776).2 1099511627776 HL_6.out.1 HL_6.out.2.1 (by decide)).mono ?_
 rintro e w7 ⟨rfl, hl⟩
 have HL_7 := Aside0.mk (HL_6.out.trans hl)
 have H0_7 := Aside0.mk (H0_6.out.keep hl.2.2 (by have := HG.out; omega))
 have HT_7 := Aside0.mk (HT_6.out.keep hl.2.2 (by have := HG.out; have := HL.out.2.2.1; omega))
 clear hl
 have x0 := HT_7.out.cell 0
 have x1 := HT_7.out.cell 1
 have x2 := HT_7.out.cell 2
 have x3 := HT_7.out.cell 3
 have x4 := HT_7.out.cell 4
 simp only [List.getElem?_toArray, List.getElem?_cons_zero, List.getElem?_cons_succ] at x0 x1 x2 x3 x4
 have f0 := blk_frozen HT_7.out 0
 have f1 := blk_frozen HT_7.out 1
 have f2 := blk_frozen HT_7.out 2
 have f3 := blk_frozen HT_7.out 3
 have f4 := blk_frozen HT_7.out 4
 go_upto_region 13 with (fail)
 obtain ⟨W, hW⟩ : ∃ W, w7.setCell ⟨w1.heap.size, 3, none⟩ (.int .i64 (countO (countO (some r) 1099511627776).2 1099511627776).1) = W := ⟨_, rfl⟩
 have HKD := Aside0.mk (show Kids w0 w W g w1.heap.size c emptyS (countO (some r) 1099511627776).1 (countO (countO (some r) 1099511627776).2 1099511627776).1 [] (countO (countO (some r) 1099511627776).2 1099511627776).2 (w1.heap.size + 1) by rw [← hW]; exact ⟨.slice none 0 0, ⟨_, _, _, rfl⟩, by have h := blk_set HT_7.out 3 (.int .i64 (countO (countO (some r) 1099511627776).2 1099511627776).1); simpa [Blk, emptyS] using h, Kd.R_nil _ _ _ _ _, left_set1 HL_7.out HT_7.out (by simp [NoU8]) (by simp [NoU8]) (by simp [NoU8]) (by simp [NoU8]) (by simp [NoU8]) (by have := HG.out; have := HL.out.2.2.1; omega) (by have := HG.out; have := HL.out.2.2.1; omega) HL.out.2.2.1 _, blk_far H0_7.out (by have := HG.out; have := HL.out.2.2.1; have := H01.out.lt; dsimp only; omega) _⟩)
 rw [hW]
 have HGT := Aside0.mk (show w.heap.size < w1.heap.size by have := HL.out.2.2.1; have := H01.out.lt; omega)
 obtain ⟨gt, hgt⟩ : ∃ k, w1.heap.size = k := ⟨_, rfl⟩
 rw [hgt] at HKD HGT ⊢
 have hnr : 0 ≤ (leastB c) ∧ (leastB c) ≤ 24 := by unfold leastB; repeat' split <;> omega
 obtain ⟨N, hN⟩ : ∃ N : Nat, (leastB c) = (N : Int) := ⟨Int.toNat (leastB c), by omega⟩
 have HNL := Aside0.mk (show N ≤ 24 by omega)
 rw [hN, Int.toNat_natCast] at HE
 rw [hN]
 obtain ⟨tv, htv⟩ : ∃ k, (countO (countO (some r) 1099511627776).2 1099511627776).1 = k := ⟨_, rfl⟩
 obtain ⟨s2, hs2⟩ : ∃ k, (countO (countO (some r) 1099511627776).2 1099511627776).2 = k := ⟨_, rfl⟩
 obtain ⟨fv, hfv⟩ : ∃ k, (countO (some r) 1099511627776).1 = k := ⟨_, rfl⟩
 simp only [htv, hs2, hfv] at HKD HE ⊢
 have hw9 := HW1.out
 clear hW hgt hN hnr htv hs2 hfv
 go_wp2
 go_loopg [63] N (fun gf s63 wx => ∃ (i : Nat) (ks : List S40) (s : Option (List Int)) (wy : World), wy = wx ∧ s63 = .int .i64 (i : Int) ∧ i + gf = N ∧ ks.length = i ∧ Kids w0 w wy g gt c emptyS fv tv ks s (gt + 1) ∧ Rest d N s2 i ks s)
 case atStart => exact ⟨0, [], s2, _, rfl, rfl, by omega, rfl, HKD.out, by simp [Rest]; cases readK (readS d) N s2 <;> simp⟩
 case round =>
  obtain ⟨i, ks, s, wx, rfl, rfl, hi, hkl, ⟨v3, ⟨A3, n3, c3, rfl⟩, hT, hR, hL, h0⟩, hRe⟩ := hrel
  have HQ := Aside0.mk hi; have HLK := Aside0.mk hkl; have HT := Aside0.mk hT; have HR := Aside0.mk hR; have HLL := Aside0.mk hL; have H0 := Aside0.mk h0; have HRE := Aside0.mk hRe
  clear hi hkl hT hR hL h0 hRe HKD
  by_cases hlt : i < N
  ·have hl1 : decide ((i : Int) < (N : Int)) = true := decide_eq_true (by omega)
   have hw1 : wrap64 ((i : Int) + 1) = ((i + 1 : Nat) : Int) := by have := HNL.out; rw [Aid.w64 (by omega) (by omega)]; omega
   have hc := HIH.out w0 wx g s HLL.out.1 HLL.out.2.1
   cases hr : readS d s with
   | none =>
    rw [hr] at hc
    have HC := Aside0.mk hc
    have HEE := Aside0.mk (HE.out.trans (by rw [rest_none HRE.out hlt hr]))
    clear hc hr
    go_wp2_with (fail)
    refine HC.out.mono ?_
    rintro e w' ⟨y0, y1, y2, y3, B3, m3, e3, s', rfl, hl'⟩
    have HL' := Aside0.mk (HLL.out.trans hl')
    have H0' := Aside0.mk (H0.out.keep hl'.2.2 (by have := HG.out; omega))
    have y0_ := fun o => blk_frozen (H0'.out.alloc o) 0
    have y1_ := fun o => blk_frozen (H0'.out.alloc o) 1
    have y2_ := fun o => blk_frozen (H0'.out.alloc o) 2
    have y3_ := fun o => blk_frozen (H0'.out.alloc o) 3
    have y4_ := fun o => blk_frozen (H0'.out.alloc o) 4
    have z0_ := fun o => (H0'.out.alloc o).cell 0
    have z1_ := fun o => (H0'.out.alloc o).cell 1
    have z2_ := fun o => (H0'.out.alloc o).cell 2
    have z3_ := fun o => (H0'.out.alloc o).cell 3
    have z4_ := fun o => (H0'.out.alloc o).cell 4
    simp only [List.getElem?_toArray, List.getElem?_cons_zero, List.getElem?_cons_succ] at z0_ z1_ z2_ z3_ z4_
    clear hl'
    go_wp2_with (fail)
    refine bodyPost_ret (results_ct rfl _ _ w.heap.size 40 #[.int .i64 0, .string ⟨#[]⟩, .int .i64 0, .int .i64 0, .slice none 0 0] (0, 0) _ rfl (set5 (H0'.out.alloc _) _ _ _ _ _) Try.underlying40 rfl (by kernel_rfl)) rfl ?_
    rw [HEE.out]
    exact ⟨0, ⟨#[]⟩, 0, 0, none, 0, 0, _, rfl, left_set5 (left_below HL'.out (below_alloc (Below.refl _ _) _)) (H0'.out.alloc _) (by simp [NoU8]) (by simp [NoU8]) (by simp [NoU8]) (by simp [NoU8]) (by simp [NoU8]) (by have := HG.out; omega) HG.out.1 (Nat.le_refl _) _ _ _ _ _⟩
   | some p =>
    obtain ⟨x, r'⟩ := p
    rw [hr] at hc
    have HC := Aside0.mk hc
    have HRS := Aside0.mk (rest_some HRE.out hlt hr)
    clear hc hr
    go_wp2_with (fail)
    refine HC.out.mono ?_
    rintro e w' ⟨q3_, rfl, ho3, hl'⟩
    obtain ⟨B3, e3, rfl⟩ := Kd.R_slice ho3
    have HL' := Aside0.mk (left_below (HLL.out.trans hl') (below_alloc (Below.refl _ _) (.cells #[.int .i64 x.f0, .string x.f1, .int .i64 x.f2, .int .i64 x.f3, .slice B3 x.f4.length e3] 40)))
    have H0' := Aside0.mk ((H0.out.keep hl'.2.2 (by have := HG.out; omega)).alloc (.cells #[.int .i64 x.f0, .string x.f1, .int .i64 x.f2, .int .i64 x.f3, .slice B3 x.f4.length e3] 40))
    have HT' := Aside0.mk ((HT.out.keep hl'.2.2 (by have := HG.out; have := HGT.out; omega)).alloc (.cells #[.int .i64 x.f0, .string x.f1, .int .i64 x.f2, .int .i64 x.f3, .slice B3 x.f4.length e3] 40))
    have HR' := Aside0.mk (Kd.R_alloc (Kd.R_keep HR.out hl'.2.2 (fun _ h => h.1)) (.cells #[.int .i64 x.f0, .string x.f1, .int .i64 x.f2, .int .i64 x.f3, .slice B3 x.f4.length e3] 40))
    have HM := Aside0.mk (k40_mkM _ (gt + 1) (fun k => wx.heap.size ≤ k) x (Kd.R_mono (Kd.R_lower (Kd.R_bound (Kd.R_alloc ho3 (.cells #[.int .i64 x.f0, .string x.f1, .int .i64 x.f2, .int .i64 x.f3, .slice B3 x.f4.length e3] 40))) (by have := HT.out.lt; omega)) (fun _ h => h.2.1)))
    have HOK := Aside0.mk (show ∀ k, wx.heap.size ≤ k → (k ≠ g ∧ k ≠ gt) ∧ some k ≠ (Value.slice A3 n3 c3).ownBlock from fun k hk => ⟨⟨by have := HG.out; have := HT.out.lt; have := HGT.out; omega, by have := HT.out.lt; omega⟩, fun e => by have := Kd.R_lt HR.out k e.symm; omega⟩)
    have HSZ := Aside0.mk (show gt + 1 ≤ (w'.alloc (.cells #[.int .i64 x.f0, .string x.f1, .int .i64 x.f2, .int .i64 x.f3, .slice B3 x.f4.length e3] 40)).heap.size from HT'.out.lt)
    have HFR := Aside0.mk (show ∀ k, (w'.alloc (.cells #[.int .i64 x.f0, .string x.f1, .int .i64 x.f2, .int .i64 x.f3, .slice B3 x.f4.length e3] 40)).heap.size ≤ k → k ≠ g ∧ k ≠ gt from fun k hk => ⟨by have := HG.out; have := HGT.out; have := HSZ.out; omega, by have := HSZ.out; omega⟩)
    have HLN := Aside0.mk (show (ks.length + 1) * 64 ≤ 140737488355328 by have := HLK.out; have := HQ.out; have := HNL.out; omega)
    have y_0 := HT'.out.cell 0
    have y_1 := HT'.out.cell 1
    have y_2 := HT'.out.cell 2
    have y_3 := HT'.out.cell 3
    have y_4 := HT'.out.cell 4
    simp only [List.getElem?_toArray, List.getElem?_cons_zero, List.getElem?_cons_succ] at y_0 y_1 y_2 y_3 y_4
    clear ho3 hl'
    go_wp2_with (first | ((with_reducible refine gate_builtin (b := .append) (xs := #[.tmp 76, .tmp 78]) rfl ?_); at_builtin; go_must (refine Kd.R_append k40 (gt + 1) rfl (.tmp 76) (.tmp 78) 38 40 (.agg #[.int .i64 0, .string ⟨#[]⟩, .int .i64 0, .int .i64 0, .slice none 0 0]) 64 rfl Try.underlying38 info_s rfl (by decide) (by decide) _ ks x _ (fun k => k ≠ g ∧ k ≠ gt) (fun k => wx.heap.size ≤ k) rfl (by rw [size_alloc_]; rfl) HM.out HOK.out HFR.out HR'.out (Below.refl _ _) HSZ.out HLN.out ?_); intro v1 w1' hr1 hb1 hg1 _; obtain ⟨A9, c9, rfl⟩ := Kd.R_slice hr1; have HMORE := Aside0.mk (kids_more HT'.out HR'.out HL'.out H0'.out hr1 hb1 hg1 HG.out HGT.out); have y3 := blk_frozen HMORE.out.1 4; have y4 := HMORE.out.1.cell 4; simp only [List.getElem?_toArray, List.getElem?_cons_zero, List.getElem?_cons_succ] at y4; clear hr1 hb1 hg1))
    go_roundg (N - (i + 1))
    case measure => have := HQ.out; omega
    case rel => exact ⟨i + 1, ks ++ [x], some r', _, rfl, by first | rfl | rw [hw1], by omega, by simp [HLK.out], by have hm := HMORE.out.2; rw [List.length_append] at hm; exact hm, HRS.out⟩
  ·have hl1 : decide ((i : Int) < (N : Int)) = false := decide_eq_false (by omega)
   have HEE := Aside0.mk (HE.out.trans (by rw [rest_end HRE.out (by omega)]))
   have HKO := Aside0.mk (kids_out HR.out HLL.out H0.out HG.out HGT.out)
   have HTD := Aside0.mk (HT.out.below (below_drew1 (Below.refl _ _)))
   have H0D := Aside0.mk (H0.out.below (below_drew1 (Below.refl _ _)))
   have x0 := HTD.out.cell 0
   have x1 := HTD.out.cell 1
   have x2 := HTD.out.cell 2
   have x3 := HTD.out.cell 3
   have x4 := HTD.out.cell 4
   simp only [List.getElem?_toArray, List.getElem?_cons_zero, List.getElem?_cons_succ] at x0 x1 x2 x3 x4
   have y0 := blk_frozen H0D.out 0
   have y1 := blk_frozen H0D.out 1
   have y2 := blk_frozen H0D.out 2
   have y3 := blk_frozen H0D.out 3
   have y4 := blk_frozen H0D.out 4
   have z0 := H0D.out.cell 0
   have z1 := H0D.out.cell 1
   have z2 := H0D.out.cell 2
   have z3 := H0D.out.cell 3
   have z4 := H0D.out.cell 4
   simp only [List.getElem?_toArray, List.getElem?_cons_zero, List.getElem?_cons_succ] at z0 z1 z2 z3 z4
   have X0 := HT.out.cell 0
   have X1 := HT.out.cell 1
   have X2 := HT.out.cell 2
   have X3 := HT.out.cell 3
   have X4 := HT.out.cell 4
   simp only [List.getElem?_toArray, List.getElem?_cons_zero, List.getElem?_cons_succ] at X0 X1 X2 X3 X4
   have Y0 := blk_frozen H0.out 0
   have Y1 := blk_frozen H0.out 1
   have Y2 := blk_frozen H0.out 2
   have Y3 := blk_frozen H0.out 3
   have Y4 := blk_frozen H0.out 4
   have Z0 := H0.out.cell 0
   have Z1 := H0.out.cell 1
   have Z2 := H0.out.cell 2
   have Z3 := H0.out.cell 3
   have Z4 := H0.out.cell 4
   simp only [List.getElem?_toArray, List.getElem?_cons_zero, List.getElem?_cons_succ] at Z0 Z1 Z2 Z3 Z4
   go_wp2
   cases s with
   | none =>
    go_region_law (go_simp; go_at_call 89; refine (okO w0 _ g none (RdO.below HLL.out.1 (below_drew1 (Below.refl _ _)))).mono ?_; rintro e w2 ⟨rfl, rfl⟩)
    all_goals
     go_wp2_with (fail)
     refine bodyPost_ret (results_ct rfl _ _ w.heap.size 40 #[.int .i64 c, .string emptyS, .int .i64 fv, .int .i64 tv, .slice A3 n3 c3] (0, 0) _ rfl ((set5 H0.out _ _ _ _ _).below (below_drew1 (Below.refl _ _))) Try.underlying40 rfl (by kernel_rfl)) rfl ?_
     rw [HEE.out]
     exact ⟨c, emptyS, fv, tv, A3, n3, c3, none, rfl, left_below (HKO.out _ _ _ _ _).2 (below_drew1 (Below.refl _ _))⟩
   | some r' =>
    go_region_law (go_simp; go_at_call 89; refine (okO w0 _ g (some r') (RdO.below HLL.out.1 (below_drew1 (Below.refl _ _)))).mono ?_; rintro e w2 ⟨rfl, rfl⟩)
    all_goals
     go_wp2_with (fail)
     refine bodyPost_ret (results_ct rfl _ _ w.heap.size 40 #[.int .i64 c, .string emptyS, .int .i64 fv, .int .i64 tv, .slice A3 n3 c3] (0, 0) _ rfl ((set5 H0.out _ _ _ _ _).below (below_drew1 (Below.refl _ _))) Try.underlying40 rfl (by kernel_rfl)) rfl ?_
     rw [HEE.out]
     exact ⟨.slice A3 n3 c3, rfl, Kd.R_drew (HKO.out _ _ _ _ _).1, left_below (HKO.out _ _ _ _ _).2 (below_drew1 (Below.refl _ _))⟩

set_option maxHeartbeats 8000000 in
set_option maxRecDepth 100000 in
theorem read_M6 (d : Nat) (hd : d + 1 ≤ 8) (ih : ∀ w0 w g st, RdO w0 w g st → Below w0.heap.size w0 w → Calls Try.prog 99 #[.pointer (some ⟨g, 0, none⟩), .int .i64 (d : Int)] w (ReadQ w0 w g (readS d st))) (w0 w : World) (g : Nat) (c : Int) (r : List Int) (h : RdO w0 w g (some (c :: r))) (hB : Below w0.heap.size w0 w) (hn : namedB c = false) (h6 : c = 6) :
  Calls Try.prog 99 #[.pointer (some ⟨g, 0, none⟩), .int .i64 ((d + 1 : Nat) : Int)] w (ReadQ w0 w g (readS (d + 1) (some (c :: r)))) := by
 have HE := Aside0.mk (show readS (d + 1) (some (c :: r)) = match readK (readS d) (Int.toNat (countO (some r) 24).1) (countO (some r) 24).2 with
   | some (ks, some s) => some (⟨c, emptyS, 0, 0, ks⟩, s)
   | _ => none by
  rw [readS, take1]
  simp only [List.getD_cons_zero]
  unfold headR
  rw [if_neg (by rw [hn]; decide), if_neg (by omega), if_pos (.inl h6)]
  all_goals rfl)
 have HIH := Aside0.mk ih
 have HD8 := Aside0.mk hd
 have HU := Aside0.mk h.u8
 have hc0 := (show 0 ≤ c ∧ c ≤ 255 from h.u8.1.head).1
 have hc1 := (show 0 ≤ c ∧ c ≤ 255 from h.u8.1.head).2
 have z9 : (((d + 1 : Nat) : Int) == 0) = false := by rw [beq_eq_false_iff_ne]; omega
 have HW1 := Aside0.mk (show wrap64 (((d + 1 : Nat) : Int) - 1) = (d : Int) from by rw [Aid.w64 (by omega) (by omega)]; omega)
 have HNM := Aside0.mk hn
 have z5 : (c == 5) = false := by simp [h6]
 have z6 : (c == 6) = true := by simp [h6]
 have HB := Aside0.mk (below_step hB (below_alloc (Below.refl w.heap.size w) (.cells #[.int .i64 0, .string ⟨#[]⟩, .int .i64 0, .int .i64 0, .slice none 0 0] 40)))
 have HS := Aside0.mk (h.below (below_alloc (Below.refl w.heap.size w) (.cells #[.int .i64 0, .string ⟨#[]⟩, .int .i64 0, .int .i64 0, .slice none 0 0] 40)))
 have H0 := Aside0.mk (show Blk (w.alloc (.cells #[.int .i64 0, .string ⟨#[]⟩, .int .i64 0, .int .i64 0, .slice none 0 0] 40)) w.heap.size 40 #[.int .i64 0, .string ⟨#[]⟩, .int .i64 0, .int .i64 0, .slice none 0 0] from blk_new _ _)
 have HG := Aside0.mk (show w0.heap.size ≤ w.heap.size ∧ g < w.heap.size from ⟨hB.size, h.blk.2.1⟩)
 have HKW := Aside0.mk (KeepBut.of_below (below_alloc (Below.refl w.heap.size w) (.cells #[.int .i64 0, .string ⟨#[]⟩, .int .i64 0, .int .i64 0, .slice none 0 0] 40)) g none)
 have hu40 := Try.underlying40
 obtain ⟨D, hD⟩ : ∃ D : Int, ((d + 1 : Nat) : Int) = D := ⟨_, rfl⟩
 rw [hD] at z9 HW1 ⊢
 clear h hB hd hD ih hn h6
 go_enter Try.func99, Try.ntmps99
 go_wp2_with (fail)
 refine (takeO_ w0 _ g (some (c :: r)) 1 HS.out HB.out).mono ?_
 rintro e w1 ⟨v, rfl, ho, hl⟩
 rw [take1] at ho hl
 obtain ⟨A5, c5, rfl, hl5, hr5⟩ := Ob.reads ho
 obtain ⟨ad5, rfl, hc5⟩ := Rb.at0 hr5
 have HL := Aside0.mk (show Tlv.Left w0 w w1 g (some r) from ⟨hl.1, hl.2.1, HKW.out.trans hl.2.2 (.inl rfl)⟩)
 have H01 := Aside0.mk (H0.out.keep hl.2.2 (by have := HG.out; omega))
 clear ho hl hl5 hr5
 go_wp2_with (fail)
 refine (okO w0 _ g (some r) HL.out.1).mono ?_
 rintro e w2 ⟨rfl, rfl⟩
 go_wp2_with (fail)
 refine (scope_kids.calls c (leastB c) (mostB c) _ (kids_v c)).mono ?_
 rintro e w3 ⟨rfl, hd⟩
 have hb := drawn_b hd
 have HL_3 := Aside0.mk (left_below (left_below HL.out (below_alloc (Below.refl _ _) _)) hb)
 have H0_3 := Aside0.mk ((H01.out.alloc (.cells #[.int .i64 c, .string ⟨#[]⟩, .int .i64 0, .int .i64 0, .slice none 0 0] 40)).below hb)
 have HT_3 := Aside0.mk ((show Blk (w1.alloc (.cells #[.int .i64 c, .string ⟨#[]⟩, .int .i64 0, .int .i64 0, .slice none 0 0] 40)) w1.heap.size 40 #[.int .i64 c, .string ⟨#[]⟩, .int .i64 0, .int .i64 0, .slice none 0 0] from blk_new _ _).below hb)
 clear hb hd
 have x0 := HT_3.out.cell 0
 have x1 := HT_3.out.cell 1
 have x2 := HT_3.out.cell 2
 have x3 := HT_3.out.cell 3
 have x4 := HT_3.out.cell 4
 simp only [List.getElem?_toArray, List.getElem?_cons_zero, List.getElem?_cons_succ] at x0 x1 x2 x3 x4
 go_wp2_with (fail)
 refine (scope_named.calls c (namedB c) _ (named_v c)).mono ?_
 rintro e w4 ⟨rfl, hd⟩
 rw [HNM.out]
 have hb := drawn_b hd
 have HL_4 := Aside0.mk (left_below HL_3.out hb)
 have H0_4 := Aside0.mk (H0_3.out.below hb)
 have HT_4 := Aside0.mk (HT_3.out.below hb)
 clear hb hd x0 x1 x2 x3 x4
 have x0 := HT_4.out.cell 0
 have x1 := HT_4.out.cell 1
 have x2 := HT_4.out.cell 2
 have x3 := HT_4.out.cell 3
 have x4 := HT_4.out.cell 4
 simp only [List.getElem?_toArray, List.getElem?_cons_zero, List.getElem?_cons_succ] at x0 x1 x2 x3 x4
 go_wp2_with (fail)
 refine (countO_ w0 _ g (some r) 24 HL_4.out.1 HL_4.out.2.1 (by decide)).mono ?_
 rintro e w5 ⟨rfl, hl⟩
 have HL_5 := Aside0.mk (HL_4.out.trans hl)
 have H0_5 := Aside0.mk (H0_4.out.keep hl.2.2 (by have := HG.out; omega))
 have HT_5 := Aside0.mk (HT_4.out.keep hl.2.2 (by have := HG.out; have := HL.out.2.2.1; omega))
 clear hl x0 x1 x2 x3 x4
 have x0 := HT_5.out.cell 0
 have x1 := HT_5.out.cell 1
 have x2 := HT_5.out.cell 2
 have x3 := HT_5.out.cell 3
 have x4 := HT_5.out.cell 4
 simp only [List.getElem?_toArray, List.getElem?_cons_zero, List.getElem?_cons_succ] at x0 x1 x2 x3 x4
 have f0 := blk_frozen HT_5.out 0
 have f1 := blk_frozen HT_5.out 1
 have f2 := blk_frozen HT_5.out 2
 have f3 := blk_frozen HT_5.out 3
 have f4 := blk_frozen HT_5.out 4
 go_upto_region 13 with (fail)
 obtain ⟨W, hW⟩ : ∃ W, w5 = W := ⟨_, rfl⟩
 have HKD := Aside0.mk (show Kids w0 w W g w1.heap.size c emptyS 0 0 [] (countO (some r) 24).2 (w1.heap.size + 1) by rw [← hW]; exact ⟨.slice none 0 0, ⟨_, _, _, rfl⟩, HT_5.out, Kd.R_nil _ _ _ _ _, HL_5.out, H0_5.out⟩)
 rw [hW]
 have HGT := Aside0.mk (show w.heap.size < w1.heap.size by have := HL.out.2.2.1; have := H01.out.lt; omega)
 obtain ⟨gt, hgt⟩ : ∃ k, w1.heap.size = k := ⟨_, rfl⟩
 rw [hgt] at HKD HGT ⊢
 have hnr : 0 ≤ (countO (some r) 24).1 ∧ (countO (some r) 24).1 ≤ 24 := cnt_rng _ (by decide) (fun bs e => by cases e; exact HU.out.1.tail)
 obtain ⟨N, hN⟩ : ∃ N : Nat, (countO (some r) 24).1 = (N : Int) := ⟨Int.toNat (countO (some r) 24).1, by omega⟩
 have HNL := Aside0.mk (show N ≤ 24 by omega)
 rw [hN, Int.toNat_natCast] at HE
 rw [hN]
 obtain ⟨s2, hs2⟩ : ∃ k, (countO (some r) 24).2 = k := ⟨_, rfl⟩
 simp only [hs2] at HKD HE ⊢
 have hw9 := HW1.out
 clear hW hgt hN hnr hs2
 go_wp2
 go_loopg [63] N (fun gf s63 wx => ∃ (i : Nat) (ks : List S40) (s : Option (List Int)) (wy : World), wy = wx ∧ s63 = .int .i64 (i : Int) ∧ i + gf = N ∧ ks.length = i ∧ Kids w0 w wy g gt c emptyS 0 0 ks s (gt + 1) ∧ Rest d N s2 i ks s)
 case atStart => exact ⟨0, [], s2, _, rfl, rfl, by omega, rfl, HKD.out, by simp [Rest]; cases readK (readS d) N s2 <;> simp⟩
 case round =>
  obtain ⟨i, ks, s, wx, rfl, rfl, hi, hkl, ⟨v3, ⟨A3, n3, c3, rfl⟩, hT, hR, hL, h0⟩, hRe⟩ := hrel
  have HQ := Aside0.mk hi; have HLK := Aside0.mk hkl; have HT := Aside0.mk hT; have HR := Aside0.mk hR; have HLL := Aside0.mk hL; have H0 := Aside0.mk h0; have HRE := Aside0.mk hRe
  clear hi hkl hT hR hL h0 hRe HKD
  by_cases hlt : i < N
  ·have hl1 : decide ((i : Int) < (N : Int)) = true := decide_eq_true (by omega)
   have hw1 : wrap64 ((i : Int) + 1) = ((i + 1 : Nat) : Int) := by have := HNL.out; rw [Aid.w64 (by omega) (by omega)]; omega
   have hc := HIH.out w0 wx g s HLL.out.1 HLL.out.2.1
   cases hr : readS d s with
   | none =>
    rw [hr] at hc
    have HC := Aside0.mk hc
    have HEE := Aside0.mk (HE.out.trans (by rw [rest_none HRE.out hlt hr]))
    clear hc hr
    go_wp2_with (fail)
    refine HC.out.mono ?_
    rintro e w' ⟨y0, y1, y2, y3, B3, m3, e3, s', rfl, hl'⟩
    have HL' := Aside0.mk (HLL.out.trans hl')
    have H0' := Aside0.mk (H0.out.keep hl'.2.2 (by have := HG.out; omega))
    have y0_ := fun o => blk_frozen (H0'.out.alloc o) 0
    have y1_ := fun o => blk_frozen (H0'.out.alloc o) 1
    have y2_ := fun o => blk_frozen (H0'.out.alloc o) 2
    have y3_ := fun o => blk_frozen (H0'.out.alloc o) 3
    have y4_ := fun o => blk_frozen (H0'.out.alloc o) 4
    have z0_ := fun o => (H0'.out.alloc o).cell 0
    have z1_ := fun o => (H0'.out.alloc o).cell 1
    have z2_ := fun o => (H0'.out.alloc o).cell 2
    have z3_ := fun o => (H0'.out.alloc o).cell 3
    have z4_ := fun o => (H0'.out.alloc o).cell 4
    simp only [List.getElem?_toArray, List.getElem?_cons_zero, List.getElem?_cons_succ] at z0_ z1_ z2_ z3_ z4_
    clear hl'
    go_wp2_with (fail)
    refine bodyPost_ret (results_ct rfl _ _ w.heap.size 40 #[.int .i64 0, .string ⟨#[]⟩, .int .i64 0, .int .i64 0, .slice none 0 0] (0, 0) _ rfl (set5 (H0'.out.alloc _) _ _ _ _ _) Try.underlying40 rfl (by kernel_rfl)) rfl ?_
    rw [HEE.out]
    exact ⟨0, ⟨#[]⟩, 0, 0, none, 0, 0, _, rfl, left_set5 (left_below HL'.out (below_alloc (Below.refl _ _) _)) (H0'.out.alloc _) (by simp [NoU8]) (by simp [NoU8]) (by simp [NoU8]) (by simp [NoU8]) (by simp [NoU8]) (by have := HG.out; omega) HG.out.1 (Nat.le_refl _) _ _ _ _ _⟩
   | some p =>
    obtain ⟨x, r'⟩ := p
    rw [hr] at hc
    have HC := Aside0.mk hc
    have HRS := Aside0.mk (rest_some HRE.out hlt hr)
    clear hc hr
    go_wp2_with (fail)
    refine HC.out.mono ?_
    rintro e w' ⟨q3_, rfl, ho3, hl'⟩
    obtain ⟨B3, e3, rfl⟩ := Kd.R_slice ho3
    have HL' := Aside0.mk (left_below (HLL.out.trans hl') (below_alloc (Below.refl _ _) (.cells #[.int .i64 x.f0, .string x.f1, .int .i64 x.f2, .int .i64 x.f3, .slice B3 x.f4.length e3] 40)))
    have H0' := Aside0.mk ((H0.out.keep hl'.2.2 (by have := HG.out; omega)).alloc (.cells #[.int .i64 x.f0, .string x.f1, .int .i64 x.f2, .int .i64 x.f3, .slice B3 x.f4.length e3] 40))
    have HT' := Aside0.mk ((HT.out.keep hl'.2.2 (by have := HG.out; have := HGT.out; omega)).alloc (.cells #[.int .i64 x.f0, .string x.f1, .int .i64 x.f2, .int .i64 x.f3, .slice B3 x.f4.length e3] 40))
    have HR' := Aside0.mk (Kd.R_alloc (Kd.R_keep HR.out hl'.2.2 (fun _ h => h.1)) (.cells #[.int .i64 x.f0, .string x.f1, .int .i64 x.f2, .int .i64 x.f3, .slice B3 x.f4.length e3] 40))
    have HM := Aside0.mk (k40_mkM _ (gt + 1) (fun k => wx.heap.size ≤ k) x (Kd.R_mono (Kd.R_lower (Kd.R_bound (Kd.R_alloc ho3 (.cells #[.int .i64 x.f0, .string x.f1, .int .i64 x.f2, .int .i64 x.f3, .slice B3 x.f4.length e3] 40))) (by have := HT.out.lt; omega)) (fun _ h => h.2.1)))
    have HOK := Aside0.mk (show ∀ k, wx.heap.size ≤ k → (k ≠ g ∧ k ≠ gt) ∧ some k ≠ (Value.slice A3 n3 c3).ownBlock from fun k hk => ⟨⟨by have := HG.out; have := HT.out.lt; have := HGT.out; omega, by have := HT.out.lt; omega⟩, fun e => by have := Kd.R_lt HR.out k e.symm; omega⟩)
    have HSZ := Aside0.mk (show gt + 1 ≤ (w'.alloc (.cells #[.int .i64 x.f0, .string x.f1, .int .i64 x.f2, .int .i64 x.f3, .slice B3 x.f4.length e3] 40)).heap.size from HT'.out.lt)
    have HFR := Aside0.mk (show ∀ k, (w'.alloc (.cells #[.int .i64 x.f0, .string x.f1, .int .i64 x.f2, .int .i64 x.f3, .slice B3 x.f4.length e3] 40)).heap.size ≤ k → k ≠ g ∧ k ≠ gt from fun k hk => ⟨by have := HG.out; have := HGT.out; have := HSZ.out; omega, by have := HSZ.out; omega⟩)
    have HLN := Aside0.mk (show (ks.length + 1) * 64 ≤ 140737488355328 by have := HLK.out; have := HQ.out; have := HNL.out; omega)
    have y_0 := HT'.out.cell 0
    have y_1 := HT'.out.cell 1
    have y_2 := HT'.out.cell 2
    have y_3 := HT'.out.cell 3
    have y_4 := HT'.out.cell 4
    simp only [List.getElem?_toArray, List.getElem?_cons_zero, List.getElem?_cons_succ] at y_0 y_1 y_2 y_3 y_4
    clear ho3 hl'
    go_wp2_with (first | ((with_reducible refine gate_builtin (b := .append) (xs := #[.tmp 76, .tmp 78]) rfl ?_); at_builtin; go_must (refine Kd.R_append k40 (gt + 1) rfl (.tmp 76) (.tmp 78) 38 40 (.agg #[.int .i64 0, .string ⟨#[]⟩, .int .i64 0, .int .i64 0, .slice none 0 0]) 64 rfl Try.underlying38 info_s rfl (by decide) (by decide) _ ks x _ (fun k => k ≠ g ∧ k ≠ gt) (fun k => wx.heap.size ≤ k) rfl (by rw [size_alloc_]; rfl) HM.out HOK.out HFR.out HR'.out (Below.refl _ _) HSZ.out HLN.out ?_); intro v1 w1' hr1 hb1 hg1 _; obtain ⟨A9, c9, rfl⟩ := Kd.R_slice hr1; have HMORE := Aside0.mk (kids_more HT'.out HR'.out HL'.out H0'.out hr1 hb1 hg1 HG.out HGT.out); have y3 := blk_frozen HMORE.out.1 4; have y4 := HMORE.out.1.cell 4; simp only [List.getElem?_toArray, List.getElem?_cons_zero, List.getElem?_cons_succ] at y4; clear hr1 hb1 hg1))
    go_roundg (N - (i + 1))
    case measure => have := HQ.out; omega
    case rel => exact ⟨i + 1, ks ++ [x], some r', _, rfl, by first | rfl | rw [hw1], by omega, by simp [HLK.out], by have hm := HMORE.out.2; rw [List.length_append] at hm; exact hm, HRS.out⟩
  ·have hl1 : decide ((i : Int) < (N : Int)) = false := decide_eq_false (by omega)
   have HEE := Aside0.mk (HE.out.trans (by rw [rest_end HRE.out (by omega)]))
   have HKO := Aside0.mk (kids_out HR.out HLL.out H0.out HG.out HGT.out)
   have HTD := Aside0.mk (HT.out.below (below_drew1 (Below.refl _ _)))
   have H0D := Aside0.mk (H0.out.below (below_drew1 (Below.refl _ _)))
   have x0 := HTD.out.cell 0
   have x1 := HTD.out.cell 1
   have x2 := HTD.out.cell 2
   have x3 := HTD.out.cell 3
   have x4 := HTD.out.cell 4
   simp only [List.getElem?_toArray, List.getElem?_cons_zero, List.getElem?_cons_succ] at x0 x1 x2 x3 x4
   have y0 := blk_frozen H0D.out 0
   have y1 := blk_frozen H0D.out 1
   have y2 := blk_frozen H0D.out 2
   have y3 := blk_frozen H0D.out 3
   have y4 := blk_frozen H0D.out 4
   have z0 := H0D.out.cell 0
   have z1 := H0D.out.cell 1
   have z2 := H0D.out.cell 2
   have z3 := H0D.out.cell 3
   have z4 := H0D.out.cell 4
   simp only [List.getElem?_toArray, List.getElem?_cons_zero, List.getElem?_cons_succ] at z0 z1 z2 z3 z4
   have X0 := HT.out.cell 0
   have X1 := HT.out.cell 1
   have X2 := HT.out.cell 2
   have X3 := HT.out.cell 3
   have X4 := HT.out.cell 4
   simp only [List.getElem?_toArray, List.getElem?_cons_zero, List.getElem?_cons_succ] at X0 X1 X2 X3 X4
   have Y0 := blk_frozen H0.out 0
   have Y1 := blk_frozen H0.out 1
   have Y2 := blk_frozen H0.out 2
   have Y3 := blk_frozen H0.out 3
   have Y4 := blk_frozen H0.out 4
   have Z0 := H0.out.cell 0
   have Z1 := H0.out.cell 1
   have Z2 := H0.out.cell 2
   have Z3 := H0.out.cell 3
   have Z4 := H0.out.cell 4
   simp only [List.getElem?_toArray, List.getElem?_cons_zero, List.getElem?_cons_succ] at Z0 Z1 Z2 Z3 Z4
   go_wp2
   cases s with
   | none =>
    go_region_law (go_simp; go_at_call 89; refine (okO w0 _ g none (RdO.below HLL.out.1 (below_drew1 (Below.refl _ _)))).mono ?_; rintro e w2 ⟨rfl, rfl⟩)
    all_goals
     go_wp2_with (fail)
     refine bodyPost_ret (results_ct rfl _ _ w.heap.size 40 #[.int .i64 c, .string emptyS, .int .i64 0, .int .i64 0, .slice A3 n3 c3] (0, 0) _ rfl ((set5 H0.out _ _ _ _ _).below (below_drew1 (Below.refl _ _))) Try.underlying40 rfl (by kernel_rfl)) rfl ?_
     rw [HEE.out]
     exact ⟨c, emptyS, 0, 0, A3, n3, c3, none, rfl, left_below (HKO.out _ _ _ _ _).2 (below_drew1 (Below.refl _ _))⟩
   | some r' =>
    go_region_law (go_simp; go_at_call 89; refine (okO w0 _ g (some r') (RdO.below HLL.out.1 (below_drew1 (Below.refl _ _)))).mono ?_; rintro e w2 ⟨rfl, rfl⟩)
    all_goals
     go_wp2_with (fail)
     refine bodyPost_ret (results_ct rfl _ _ w.heap.size 40 #[.int .i64 c, .string emptyS, .int .i64 0, .int .i64 0, .slice A3 n3 c3] (0, 0) _ rfl ((set5 H0.out _ _ _ _ _).below (below_drew1 (Below.refl _ _))) Try.underlying40 rfl (by kernel_rfl)) rfl ?_
     rw [HEE.out]
     exact ⟨.slice A3 n3 c3, rfl, Kd.R_drew (HKO.out _ _ _ _ _).1, left_below (HKO.out _ _ _ _ _).2 (below_drew1 (Below.refl _ _))⟩

set_option maxHeartbeats 8000000 in
set_option maxRecDepth 100000 in
theorem read_M7 (d : Nat) (hd : d + 1 ≤ 8) (ih : ∀ w0 w g st, RdO w0 w g st → Below w0.heap.size w0 w → Calls Try.prog 99 #[.pointer (some ⟨g, 0, none⟩), .int .i64 (d : Int)] w (ReadQ w0 w g (readS d st))) (w0 w : World) (g : Nat) (c : Int) (r : List Int) (h : RdO w0 w g (some (c :: r))) (hB : Below w0.heap.size w0 w) (hn : namedB c = false) (h7 : c = 7) :
  Calls Try.prog 99 #[.pointer (some ⟨g, 0, none⟩), .int .i64 ((d + 1 : Nat) : Int)] w (ReadQ w0 w g (readS (d + 1) (some (c :: r)))) := by
 have HE := Aside0.mk (show readS (d + 1) (some (c :: r)) = match readK (readS d) (Int.toNat (countO (some r) 24).1) (countO (some r) 24).2 with
   | some (ks, some s) => some (⟨c, emptyS, 0, 0, ks⟩, s)
   | _ => none by
  rw [readS, take1]
  simp only [List.getD_cons_zero]
  unfold headR
  rw [if_neg (by rw [hn]; decide), if_neg (by omega), if_pos (.inr h7)]
  all_goals rfl)
 have HIH := Aside0.mk ih
 have HD8 := Aside0.mk hd
 have HU := Aside0.mk h.u8
 have hc0 := (show 0 ≤ c ∧ c ≤ 255 from h.u8.1.head).1
 have hc1 := (show 0 ≤ c ∧ c ≤ 255 from h.u8.1.head).2
 have z9 : (((d + 1 : Nat) : Int) == 0) = false := by rw [beq_eq_false_iff_ne]; omega
 have HW1 := Aside0.mk (show wrap64 (((d + 1 : Nat) : Int) - 1) = (d : Int) from by rw [Aid.w64 (by omega) (by omega)]; omega)
 have HNM := Aside0.mk hn
 have z5 : (c == 5) = false := by simp [h7]
 have z6 : (c == 6) = false := by simp [h7]
 have z7 : (c == 7) = true := by simp [h7]
 have HB := Aside0.mk (below_step hB (below_alloc (Below.refl w.heap.size w) (.cells #[.int .i64 0, .string ⟨#[]⟩, .int .i64 0, .int .i64 0, .slice none 0 0] 40)))
 have HS := Aside0.mk (h.below (below_alloc (Below.refl w.heap.size w) (.cells #[.int .i64 0, .string ⟨#[]⟩, .int .i64 0, .int .i64 0, .slice none 0 0] 40)))
 have H0 := Aside0.mk (show Blk (w.alloc (.cells #[.int .i64 0, .string ⟨#[]⟩, .int .i64 0, .int .i64 0, .slice none 0 0] 40)) w.heap.size 40 #[.int .i64 0, .string ⟨#[]⟩, .int .i64 0, .int .i64 0, .slice none 0 0] from blk_new _ _)
 have HG := Aside0.mk (show w0.heap.size ≤ w.heap.size ∧ g < w.heap.size from ⟨hB.size, h.blk.2.1⟩)
 have HKW := Aside0.mk (KeepBut.of_below (below_alloc (Below.refl w.heap.size w) (.cells #[.int .i64 0, .string ⟨#[]⟩, .int .i64 0, .int .i64 0, .slice none 0 0] 40)) g none)
 have hu40 := Try.underlying40
 obtain ⟨D, hD⟩ : ∃ D : Int, ((d + 1 : Nat) : Int) = D := ⟨_, rfl⟩
 rw [hD] at z9 HW1 ⊢
 clear h hB hd hD ih hn h7
 go_enter Try.func99, Try.ntmps99
 go_wp2_with (fail)
 refine (takeO_ w0 _ g (some (c :: r)) 1 HS.out HB.out).mono ?_
 rintro e w1 ⟨v, rfl, ho, hl⟩
 rw [take1] at ho hl
 obtain ⟨A5, c5, rfl, hl5, hr5⟩ := Ob.reads ho
 obtain ⟨ad5, rfl, hc5⟩ := Rb.at0 hr5
 have HL := Aside0.mk (show Tlv.Left w0 w w1 g (some r) from ⟨hl.1, hl.2.1, HKW.out.trans hl.2.2 (.inl rfl)⟩)
 have H01 := Aside0.mk (H0.out.keep hl.2.2 (by have := HG.out; omega))
 clear ho hl hl5 hr5
 go_wp2_with (fail)
 refine (okO w0 _ g (some r) HL.out.1).mono ?_
 rintro e w2 ⟨rfl, rfl⟩
 go_wp2_with (fail)
 refine (scope_kids.calls c (leastB c) (mostB c) _ (kids_v c)).mono ?_
 rintro e w3 ⟨rfl, hd⟩
 have hb := drawn_b hd
 have HL_3 := Aside0.mk (left_below (left_below HL.out (below_alloc (Below.refl _ _) _)) hb)
 have H0_3 := Aside0.mk ((H01.out.alloc (.cells #[.int .i64 c, .string ⟨#[]⟩, .int .i64 0, .int .i64 0, .slice none 0 0] 40)).below hb)
 have HT_3 := Aside0.mk ((show Blk (w1.alloc (.cells #[.int .i64 c, .string ⟨#[]⟩, .int .i64 0, .int .i64 0, .slice none 0 0] 40)) w1.heap.size 40 #[.int .i64 c, .string ⟨#[]⟩, .int .i64 0, .int .i64 0, .slice none 0 0] from blk_new _ _).below hb)
 clear hb hd
 have x0 := HT_3.out.cell 0
 have x1 := HT_3.out.cell 1
 have x2 := HT_3.out.cell 2
 have x3 := HT_3.out.cell 3
 have x4 := HT_3.out.cell 4
 simp only [List.getElem?_toArray, List.getElem?_cons_zero, List.getElem?_cons_succ] at x0 x1 x2 x3 x4
 go_wp2_with (fail)
 refine (scope_named.calls c (namedB c) _ (named_v c)).mono ?_
 rintro e w4 ⟨rfl, hd⟩
 rw [HNM.out]
 have hb := drawn_b hd
 have HL_4 := Aside0.mk (left_below HL_3.out hb)
 have H0_4 := Aside0.mk (H0_3.out.below hb)
 have HT_4 := Aside0.mk (HT_3.out.below hb)
 clear hb hd x0 x1 x2 x3 x4
 have x0 := HT_4.out.cell 0
 have x1 := HT_4.out.cell 1
 have x2 := HT_4.out.cell 2
 have x3 := HT_4.out.cell 3
 have x4 := HT_4.out.cell 4
 simp only [List.getElem?_toArray, List.getElem?_cons_zero, List.getElem?_cons_succ] at x0 x1 x2 x3 x4
 go_wp2_with (fail)
 refine (countO_ w0 _ g (some r) 24 HL_4.out.1 HL_4.out.2.1 (by decide)).mono ?_
 rintro e w5 ⟨rfl, hl⟩
 have HL_5 := Aside0.mk (HL_4.out.trans hl)
 have H0_5 := Aside0.mk (H0_4.out.keep hl.2.2 (by have := HG.out; omega))
 have HT_5 := Aside0.mk (HT_4.out.keep hl.2.2 (by have := HG.out; have := HL.out.2.2.1; omega))
 clear hl x0 x1 x2 x3 x4
 have x0 := HT_5.out.cell 0
 have x1 := HT_5.out.cell 1
 have x2 := HT_5.out.cell 2
 have x3 := HT_5.out.cell 3
 have x4 := HT_5.out.cell 4
 simp only [List.getElem?_toArray, List.getElem?_cons_zero, List.getElem?_cons_succ] at x0 x1 x2 x3 x4
 have f0 := blk_frozen HT_5.out 0
 have f1 := blk_frozen HT_5.out 1
 have f2 := blk_frozen HT_5.out 2
 have f3 := blk_frozen HT_5.out 3
 have f4 := blk_frozen HT_5.out 4
 go_upto_region 13 with (fail)
 obtain ⟨W, hW⟩ : ∃ W, w5 = W := ⟨_, rfl⟩
 have HKD := Aside0.mk (show Kids w0 w W g w1.heap.size c emptyS 0 0 [] (countO (some r) 24).2 (w1.heap.size + 1) by rw [← hW]; exact ⟨.slice none 0 0, ⟨_, _, _, rfl⟩, HT_5.out, Kd.R_nil _ _ _ _ _, HL_5.out, H0_5.out⟩)
 rw [hW]
 have HGT := Aside0.mk (show w.heap.size < w1.heap.size by have := HL.out.2.2.1; have := H01.out.lt; omega)
 obtain ⟨gt, hgt⟩ : ∃ k, w1.heap.size = k := ⟨_, rfl⟩
 rw [hgt] at HKD HGT ⊢
 have hnr : 0 ≤ (countO (some r) 24).1 ∧ (countO (some r) 24).1 ≤ 24 := cnt_rng _ (by decide) (fun bs e => by cases e; exact HU.out.1.tail)
 obtain ⟨N, hN⟩ : ∃ N : Nat, (countO (some r) 24).1 = (N : Int) := ⟨Int.toNat (countO (some r) 24).1, by omega⟩
 have HNL := Aside0.mk (show N ≤ 24 by omega)
 rw [hN, Int.toNat_natCast] at HE
 rw [hN]
 obtain ⟨s2, hs2⟩ : ∃ k, (countO (some r) 24).2 = k := ⟨_, rfl⟩
 simp only [hs2] at HKD HE ⊢
 have hw9 := HW1.out
 clear hW hgt hN hnr hs2
 go_wp2
 go_loopg [63] N (fun gf s63 wx => ∃ (i : Nat) (ks : List S40) (s : Option (List Int)) (wy : World), wy = wx ∧ s63 = .int .i64 (i : Int) ∧ i + gf = N ∧ ks.length = i ∧ Kids w0 w wy g gt c emptyS 0 0 ks s (gt + 1) ∧ Rest d N s2 i ks s)
 case atStart => exact ⟨0, [], s2, _, rfl, rfl, by omega, rfl, HKD.out, by simp [Rest]; cases readK (readS d) N s2 <;> simp⟩
 case round =>
  obtain ⟨i, ks, s, wx, rfl, rfl, hi, hkl, ⟨v3, ⟨A3, n3, c3, rfl⟩, hT, hR, hL, h0⟩, hRe⟩ := hrel
  have HQ := Aside0.mk hi; have HLK := Aside0.mk hkl; have HT := Aside0.mk hT; have HR := Aside0.mk hR; have HLL := Aside0.mk hL; have H0 := Aside0.mk h0; have HRE := Aside0.mk hRe
  clear hi hkl hT hR hL h0 hRe HKD
  by_cases hlt : i < N
  ·have hl1 : decide ((i : Int) < (N : Int)) = true := decide_eq_true (by omega)
   have hw1 : wrap64 ((i : Int) + 1) = ((i + 1 : Nat) : Int) := by have := HNL.out; rw [Aid.w64 (by omega) (by omega)]; omega
   have hc := HIH.out w0 wx g s HLL.out.1 HLL.out.2.1
   cases hr : readS d s with
   | none =>
    rw [hr] at hc
    have HC := Aside0.mk hc
    have HEE := Aside0.mk (HE.out.trans (by rw [rest_none HRE.out hlt hr]))
    clear hc hr
    go_wp2_with (fail)
    refine HC.out.mono ?_
    rintro e w' ⟨y0, y1, y2, y3, B3, m3, e3, s', rfl, hl'⟩
    have HL' := Aside0.mk (HLL.out.trans hl')
    have H0' := Aside0.mk (H0.out.keep hl'.2.2 (by have := HG.out; omega))
    have y0_ := fun o => blk_frozen (H0'.out.alloc o) 0
    have y1_ := fun o => blk_frozen (H0'.out.alloc o) 1
    have y2_ := fun o => blk_frozen (H0'.out.alloc o) 2
    have y3_ := fun o => blk_frozen (H0'.out.alloc o) 3
    have y4_ := fun o => blk_frozen (H0'.out.alloc o) 4
    have z0_ := fun o => (H0'.out.alloc o).cell 0
    have z1_ := fun o => (H0'.out.alloc o).cell 1
    have z2_ := fun o => (H0'.out.alloc o).cell 2
    have z3_ := fun o => (H0'.out.alloc o).cell 3
    have z4_ := fun o => (H0'.out.alloc o).cell 4
    simp only [List.getElem?_toArray, List.getElem?_cons_zero, List.getElem?_cons_succ] at z0_ z1_ z2_ z3_ z4_
    clear hl'
    go_wp2_with (fail)
    refine bodyPost_ret (results_ct rfl _ _ w.heap.size 40 #[.int .i64 0, .string ⟨#[]⟩, .int .i64 0, .int .i64 0, .slice none 0 0] (0, 0) _ rfl (set5 (H0'.out.alloc _) _ _ _ _ _) Try.underlying40 rfl (by kernel_rfl)) rfl ?_
    rw [HEE.out]
    exact ⟨0, ⟨#[]⟩, 0, 0, none, 0, 0, _, rfl, left_set5 (left_below HL'.out (below_alloc (Below.refl _ _) _)) (H0'.out.alloc _) (by simp [NoU8]) (by simp [NoU8]) (by simp [NoU8]) (by simp [NoU8]) (by simp [NoU8]) (by have := HG.out; omega) HG.out.1 (Nat.le_refl _) _ _ _ _ _⟩
   | some p =>
    obtain ⟨x, r'⟩ := p
    rw [hr] at hc
    have HC := Aside0.mk hc
    have HRS := Aside0.mk (rest_some HRE.out hlt hr)
    clear hc hr
    go_wp2_with (fail)
    refine HC.out.mono ?_
    rintro e w' ⟨q3_, rfl, ho3, hl'⟩
    obtain ⟨B3, e3, rfl⟩ := Kd.R_slice ho3
    have HL' := Aside0.mk (left_below (HLL.out.trans hl') (below_alloc (Below.refl _ _) (.cells #[.int .i64 x.f0, .string x.f1, .int .i64 x.f2, .int .i64 x.f3, .slice B3 x.f4.length e3] 40)))
    have H0' := Aside0.mk ((H0.out.keep hl'.2.2 (by have := HG.out; omega)).alloc (.cells #[.int .i64 x.f0, .string x.f1, .int .i64 x.f2, .int .i64 x.f3, .slice B3 x.f4.length e3] 40))
    have HT' := Aside0.mk ((HT.out.keep hl'.2.2 (by have := HG.out; have := HGT.out; omega)).alloc (.cells #[.int .i64 x.f0, .string x.f1, .int .i64 x.f2, .int .i64 x.f3, .slice B3 x.f4.length e3] 40))
    have HR' := Aside0.mk (Kd.R_alloc (Kd.R_keep HR.out hl'.2.2 (fun _ h => h.1)) (.cells #[.int .i64 x.f0, .string x.f1, .int .i64 x.f2, .int .i64 x.f3, .slice B3 x.f4.length e3] 40))
    have HM := Aside0.mk (k40_mkM _ (gt + 1) (fun k => wx.heap.size ≤ k) x (Kd.R_mono (Kd.R_lower (Kd.R_bound (Kd.R_alloc ho3 (.cells #[.int .i64 x.f0, .string x.f1, .int .i64 x.f2, .int .i64 x.f3, .slice B3 x.f4.length e3] 40))) (by have := HT.out.lt; omega)) (fun _ h => h.2.1)))
    have HOK := Aside0.mk (show ∀ k, wx.heap.size ≤ k → (k ≠ g ∧ k ≠ gt) ∧ some k ≠ (Value.slice A3 n3 c3).ownBlock from fun k hk => ⟨⟨by have := HG.out; have := HT.out.lt; have := HGT.out; omega, by have := HT.out.lt; omega⟩, fun e => by have := Kd.R_lt HR.out k e.symm; omega⟩)
    have HSZ := Aside0.mk (show gt + 1 ≤ (w'.alloc (.cells #[.int .i64 x.f0, .string x.f1, .int .i64 x.f2, .int .i64 x.f3, .slice B3 x.f4.length e3] 40)).heap.size from HT'.out.lt)
    have HFR := Aside0.mk (show ∀ k, (w'.alloc (.cells #[.int .i64 x.f0, .string x.f1, .int .i64 x.f2, .int .i64 x.f3, .slice B3 x.f4.length e3] 40)).heap.size ≤ k → k ≠ g ∧ k ≠ gt from fun k hk => ⟨by have := HG.out; have := HGT.out; have := HSZ.out; omega, by have := HSZ.out; omega⟩)
    have HLN := Aside0.mk (show (ks.length + 1) * 64 ≤ 140737488355328 by have := HLK.out; have := HQ.out; have := HNL.out; omega)
    have y_0 := HT'.out.cell 0
    have y_1 := HT'.out.cell 1
    have y_2 := HT'.out.cell 2
    have y_3 := HT'.out.cell 3
    have y_4 := HT'.out.cell 4
    simp only [List.getElem?_toArray, List.getElem?_cons_zero, List.getElem?_cons_succ] at y_0 y_1 y_2 y_3 y_4
    clear ho3 hl'
    go_wp2_with (first | ((with_reducible refine gate_builtin (b := .append) (xs := #[.tmp 76, .tmp 78]) rfl ?_); at_builtin; go_must (refine Kd.R_append k40 (gt + 1) rfl (.tmp 76) (.tmp 78) 38 40 (.agg #[.int .i64 0, .string ⟨#[]⟩, .int .i64 0, .int .i64 0, .slice none 0 0]) 64 rfl Try.underlying38 info_s rfl (by decide) (by decide) _ ks x _ (fun k => k ≠ g ∧ k ≠ gt) (fun k => wx.heap.size ≤ k) rfl (by rw [size_alloc_]; rfl) HM.out HOK.out HFR.out HR'.out (Below.refl _ _) HSZ.out HLN.out ?_); intro v1 w1' hr1 hb1 hg1 _; obtain ⟨A9, c9, rfl⟩ := Kd.R_slice hr1; have HMORE := Aside0.mk (kids_more HT'.out HR'.out HL'.out H0'.out hr1 hb1 hg1 HG.out HGT.out); have y3 := blk_frozen HMORE.out.1 4; have y4 := HMORE.out.1.cell 4; simp only [List.getElem?_toArray, List.getElem?_cons_zero, List.getElem?_cons_succ] at y4; clear hr1 hb1 hg1))
    go_roundg (N - (i + 1))
    case measure => have := HQ.out; omega
    case rel => exact ⟨i + 1, ks ++ [x], some r', _, rfl, by first | rfl | rw [hw1], by omega, by simp [HLK.out], by have hm := HMORE.out.2; rw [List.length_append] at hm; exact hm, HRS.out⟩
  ·have hl1 : decide ((i : Int) < (N : Int)) = false := decide_eq_false (by omega)
   have HEE := Aside0.mk (HE.out.trans (by rw [rest_end HRE.out (by omega)]))
   have HKO := Aside0.mk (kids_out HR.out HLL.out H0.out HG.out HGT.out)
   have HTD := Aside0.mk (HT.out.below (below_drew1 (Below.refl _ _)))
   have H0D := Aside0.mk (H0.out.below (below_drew1 (Below.refl _ _)))
   have x0 := HTD.out.cell 0
   have x1 := HTD.out.cell 1
   have x2 := HTD.out.cell 2
   have x3 := HTD.out.cell 3
   have x4 := HTD.out.cell 4
   simp only [List.getElem?_toArray, List.getElem?_cons_zero, List.getElem?_cons_succ] at x0 x1 x2 x3 x4
   have y0 := blk_frozen H0D.out 0
   have y1 := blk_frozen H0D.out 1
   have y2 := blk_frozen H0D.out 2
   have y3 := blk_frozen H0D.out 3
   have y4 := blk_frozen H0D.out 4
   have z0 := H0D.out.cell 0
   have z1 := H0D.out.cell 1
   have z2 := H0D.out.cell 2
   have z3 := H0D.out.cell 3
   have z4 := H0D.out.cell 4
   simp only [List.getElem?_toArray, List.getElem?_cons_zero, List.getElem?_cons_succ] at z0 z1 z2 z3 z4
   have X0 := HT.out.cell 0
   have X1 := HT.out.cell 1
   have X2 := HT.out.cell 2
   have X3 := HT.out.cell 3
   have X4 := HT.out.cell 4
   simp only [List.getElem?_toArray, List.getElem?_cons_zero, List.getElem?_cons_succ] at X0 X1 X2 X3 X4
   have Y0 := blk_frozen H0.out 0
   have Y1 := blk_frozen H0.out 1
   have Y2 := blk_frozen H0.out 2
   have Y3 := blk_frozen H0.out 3
   have Y4 := blk_frozen H0.out 4
   have Z0 := H0.out.cell 0
   have Z1 := H0.out.cell 1
   have Z2 := H0.out.cell 2
   have Z3 := H0.out.cell 3
   have Z4 := H0.out.cell 4
   simp only [List.getElem?_toArray, List.getElem?_cons_zero, List.getElem?_cons_succ] at Z0 Z1 Z2 Z3 Z4
   go_wp2
   cases s with
   | none =>
    go_region_law (go_simp; go_at_call 89; refine (okO w0 _ g none (RdO.below HLL.out.1 (below_drew1 (Below.refl _ _)))).mono ?_; rintro e w2 ⟨rfl, rfl⟩)
    all_goals
     go_wp2_with (fail)
     refine bodyPost_ret (results_ct rfl _ _ w.heap.size 40 #[.int .i64 c, .string emptyS, .int .i64 0, .int .i64 0, .slice A3 n3 c3] (0, 0) _ rfl ((set5 H0.out _ _ _ _ _).below (below_drew1 (Below.refl _ _))) Try.underlying40 rfl (by kernel_rfl)) rfl ?_
     rw [HEE.out]
     exact ⟨c, emptyS, 0, 0, A3, n3, c3, none, rfl, left_below (HKO.out _ _ _ _ _).2 (below_drew1 (Below.refl _ _))⟩
   | some r' =>
    go_region_law (go_simp; go_at_call 89; refine (okO w0 _ g (some r') (RdO.below HLL.out.1 (below_drew1 (Below.refl _ _)))).mono ?_; rintro e w2 ⟨rfl, rfl⟩)
    all_goals
     go_wp2_with (fail)
     refine bodyPost_ret (results_ct rfl _ _ w.heap.size 40 #[.int .i64 c, .string emptyS, .int .i64 0, .int .i64 0, .slice A3 n3 c3] (0, 0) _ rfl ((set5 H0.out _ _ _ _ _).below (below_drew1 (Below.refl _ _))) Try.underlying40 rfl (by kernel_rfl)) rfl ?_
     rw [HEE.out]
     exact ⟨.slice A3 n3 c3, rfl, Kd.R_drew (HKO.out _ _ _ _ _).1, left_below (HKO.out _ _ _ _ _).2 (below_drew1 (Below.refl _ _))⟩

set_option maxHeartbeats 8000000 in
set_option maxRecDepth 100000 in
theorem read_O (d : Nat) (hd : d + 1 ≤ 8) (ih : ∀ w0 w g st, RdO w0 w g st → Below w0.heap.size w0 w → Calls Try.prog 99 #[.pointer (some ⟨g, 0, none⟩), .int .i64 (d : Int)] w (ReadQ w0 w g (readS d st))) (w0 w : World) (g : Nat) (c : Int) (r : List Int) (h : RdO w0 w g (some (c :: r))) (hB : Below w0.heap.size w0 w) (hn : namedB c = false) (h5 : c ≠ 5) (h6 : c ≠ 6) (h7 : c ≠ 7) :
  Calls Try.prog 99 #[.pointer (some ⟨g, 0, none⟩), .int .i64 ((d + 1 : Nat) : Int)] w (ReadQ w0 w g (readS (d + 1) (some (c :: r)))) := by
 have HE := Aside0.mk (show readS (d + 1) (some (c :: r)) = match readK (readS d) (Int.toNat (leastB c)) (some r) with
   | some (ks, some s) => some (⟨c, emptyS, 0, 0, ks⟩, s)
   | _ => none by
  rw [readS, take1]
  simp only [List.getD_cons_zero]
  unfold headR
  rw [if_neg (by rw [hn]; decide), if_neg h5, if_neg (by omega)]
  all_goals rfl)
 have HIH := Aside0.mk ih
 have HD8 := Aside0.mk hd
 have HU := Aside0.mk h.u8
 have hc0 := (show 0 ≤ c ∧ c ≤ 255 from h.u8.1.head).1
 have hc1 := (show 0 ≤ c ∧ c ≤ 255 from h.u8.1.head).2
 have z9 : (((d + 1 : Nat) : Int) == 0) = false := by rw [beq_eq_false_iff_ne]; omega
 have HW1 := Aside0.mk (show wrap64 (((d + 1 : Nat) : Int) - 1) = (d : Int) from by rw [Aid.w64 (by omega) (by omega)]; omega)
 have HNM := Aside0.mk hn
 have z5 : (c == 5) = false := by simp [h5]
 have z6 : (c == 6) = false := by simp [h6]
 have z7 : (c == 7) = false := by simp [h7]
 have HB := Aside0.mk (below_step hB (below_alloc (Below.refl w.heap.size w) (.cells #[.int .i64 0, .string ⟨#[]⟩, .int .i64 0, .int .i64 0, .slice none 0 0] 40)))
 have HS := Aside0.mk (h.below (below_alloc (Below.refl w.heap.size w) (.cells #[.int .i64 0, .string ⟨#[]⟩, .int .i64 0, .int .i64 0, .slice none 0 0] 40)))
 have H0 := Aside0.mk (show Blk (w.alloc (.cells #[.int .i64 0, .string ⟨#[]⟩, .int .i64 0, .int .i64 0, .slice none 0 0] 40)) w.heap.size 40 #[.int .i64 0, .string ⟨#[]⟩, .int .i64 0, .int .i64 0, .slice none 0 0] from blk_new _ _)
 have HG := Aside0.mk (show w0.heap.size ≤ w.heap.size ∧ g < w.heap.size from ⟨hB.size, h.blk.2.1⟩)
 have HKW := Aside0.mk (KeepBut.of_below (below_alloc (Below.refl w.heap.size w) (.cells #[.int .i64 0, .string ⟨#[]⟩, .int .i64 0, .int .i64 0, .slice none 0 0] 40)) g none)
 have hu40 := Try.underlying40
 obtain ⟨D, hD⟩ : ∃ D : Int, ((d + 1 : Nat) : Int) = D := ⟨_, rfl⟩
 rw [hD] at z9 HW1 ⊢
 clear h hB hd hD ih hn h5 h6 h7
 go_enter Try.func99, Try.ntmps99
 go_wp2_with (fail)
 refine (takeO_ w0 _ g (some (c :: r)) 1 HS.out HB.out).mono ?_
 rintro e w1 ⟨v, rfl, ho, hl⟩
 rw [take1] at ho hl
 obtain ⟨A5, c5, rfl, hl5, hr5⟩ := Ob.reads ho
 obtain ⟨ad5, rfl, hc5⟩ := Rb.at0 hr5
 have HL := Aside0.mk (show Tlv.Left w0 w w1 g (some r) from ⟨hl.1, hl.2.1, HKW.out.trans hl.2.2 (.inl rfl)⟩)
 have H01 := Aside0.mk (H0.out.keep hl.2.2 (by have := HG.out; omega))
 clear ho hl hl5 hr5
 go_wp2_with (fail)
 refine (okO w0 _ g (some r) HL.out.1).mono ?_
 rintro e w2 ⟨rfl, rfl⟩
 go_wp2_with (fail)
 refine (scope_kids.calls c (leastB c) (mostB c) _ (kids_v c)).mono ?_
 rintro e w3 ⟨rfl, hd⟩
 have hb := drawn_b hd
 have HL_3 := Aside0.mk (left_below (left_below HL.out (below_alloc (Below.refl _ _) _)) hb)
 have H0_3 := Aside0.mk ((H01.out.alloc (.cells #[.int .i64 c, .string ⟨#[]⟩, .int .i64 0, .int .i64 0, .slice none 0 0] 40)).below hb)
 have HT_3 := Aside0.mk ((show Blk (w1.alloc (.cells #[.int .i64 c, .string ⟨#[]⟩, .int .i64 0, .int .i64 0, .slice none 0 0] 40)) w1.heap.size 40 #[.int .i64 c, .string ⟨#[]⟩, .int .i64 0, .int .i64 0, .slice none 0 0] from blk_new _ _).below hb)
 clear hb hd
 have x0 := HT_3.out.cell 0
 have x1 := HT_3.out.cell 1
 have x2 := HT_3.out.cell 2
 have x3 := HT_3.out.cell 3
 have x4 := HT_3.out.cell 4
 simp only [List.getElem?_toArray, List.getElem?_cons_zero, List.getElem?_cons_succ] at x0 x1 x2 x3 x4
 go_wp2_with (fail)
 refine (scope_named.calls c (namedB c) _ (named_v c)).mono ?_
 rintro e w4 ⟨rfl, hd⟩
 rw [HNM.out]
 have hb := drawn_b hd
 have HL_4 := Aside0.mk (left_below HL_3.out hb)
 have H0_4 := Aside0.mk (H0_3.out.below hb)
 have HT_4 := Aside0.mk (HT_3.out.below hb)
 clear hb hd x0 x1 x2 x3 x4
 have x0 := HT_4.out.cell 0
 have x1 := HT_4.out.cell 1
 have x2 := HT_4.out.cell 2
 have x3 := HT_4.out.cell 3
 have x4 := HT_4.out.cell 4
 simp only [List.getElem?_toArray, List.getElem?_cons_zero, List.getElem?_cons_succ] at x0 x1 x2 x3 x4
 go_upto_region 13 with (fail)
 obtain ⟨W, hW⟩ : ∃ W, w4 = W := ⟨_, rfl⟩
 have HKD := Aside0.mk (show Kids w0 w W g w1.heap.size c emptyS 0 0 [] (some r) (w1.heap.size + 1) by rw [← hW]; exact ⟨.slice none 0 0, ⟨_, _, _, rfl⟩, HT_4.out, Kd.R_nil _ _ _ _ _, HL_4.out, H0_4.out⟩)
 rw [hW]
 have HGT := Aside0.mk (show w.heap.size < w1.heap.size by have := HL.out.2.2.1; have := H01.out.lt; omega)
 obtain ⟨gt, hgt⟩ : ∃ k, w1.heap.size = k := ⟨_, rfl⟩
 rw [hgt] at HKD HGT ⊢
 have hnr : 0 ≤ (leastB c) ∧ (leastB c) ≤ 24 := by unfold leastB; repeat' split <;> omega
 obtain ⟨N, hN⟩ : ∃ N : Nat, (leastB c) = (N : Int) := ⟨Int.toNat (leastB c), by omega⟩
 have HNL := Aside0.mk (show N ≤ 24 by omega)
 rw [hN, Int.toNat_natCast] at HE
 rw [hN]
 obtain ⟨s2, hs2⟩ : ∃ k, (some r) = k := ⟨_, rfl⟩
 obtain rfl := hs2
 have hw9 := HW1.out
 clear hW hgt hN hnr
 go_wp2
 go_loopg [63] N (fun gf s63 wx => ∃ (i : Nat) (ks : List S40) (s : Option (List Int)) (wy : World), wy = wx ∧ s63 = .int .i64 (i : Int) ∧ i + gf = N ∧ ks.length = i ∧ Kids w0 w wy g gt c emptyS 0 0 ks s (gt + 1) ∧ Rest d N (some r) i ks s)
 case atStart => exact ⟨0, [], (some r), _, rfl, rfl, by omega, rfl, HKD.out, by simp [Rest]; cases readK (readS d) N (some r) <;> simp⟩
 case round =>
  obtain ⟨i, ks, s, wx, rfl, rfl, hi, hkl, ⟨v3, ⟨A3, n3, c3, rfl⟩, hT, hR, hL, h0⟩, hRe⟩ := hrel
  have HQ := Aside0.mk hi; have HLK := Aside0.mk hkl; have HT := Aside0.mk hT; have HR := Aside0.mk hR; have HLL := Aside0.mk hL; have H0 := Aside0.mk h0; have HRE := Aside0.mk hRe
  clear hi hkl hT hR hL h0 hRe HKD
  by_cases hlt : i < N
  ·have hl1 : decide ((i : Int) < (N : Int)) = true := decide_eq_true (by omega)
   have hw1 : wrap64 ((i : Int) + 1) = ((i + 1 : Nat) : Int) := by have := HNL.out; rw [Aid.w64 (by omega) (by omega)]; omega
   have hc := HIH.out w0 wx g s HLL.out.1 HLL.out.2.1
   cases hr : readS d s with
   | none =>
    rw [hr] at hc
    have HC := Aside0.mk hc
    have HEE := Aside0.mk (HE.out.trans (by rw [rest_none HRE.out hlt hr]))
    clear hc hr
    go_wp2_with (fail)
    refine HC.out.mono ?_
    rintro e w' ⟨y0, y1, y2, y3, B3, m3, e3, s', rfl, hl'⟩
    have HL' := Aside0.mk (HLL.out.trans hl')
    have H0' := Aside0.mk (H0.out.keep hl'.2.2 (by have := HG.out; omega))
    have y0_ := fun o => blk_frozen (H0'.out.alloc o) 0
    have y1_ := fun o => blk_frozen (H0'.out.alloc o) 1
    have y2_ := fun o => blk_frozen (H0'.out.alloc o) 2
    have y3_ := fun o => blk_frozen (H0'.out.alloc o) 3
    have y4_ := fun o => blk_frozen (H0'.out.alloc o) 4
    have z0_ := fun o => (H0'.out.alloc o).cell 0
    have z1_ := fun o => (H0'.out.alloc o).cell 1
    have z2_ := fun o => (H0'.out.alloc o).cell 2
    have z3_ := fun o => (H0'.out.alloc o).cell 3
    have z4_ := fun o => (H0'.out.alloc o).cell 4
    simp only [List.getElem?_toArray, List.getElem?_cons_zero, List.getElem?_cons_succ] at z0_ z1_ z2_ z3_ z4_
    clear hl'
    go_wp2_with (fail)
    refine bodyPost_ret (results_ct rfl _ _ w.heap.size 40 #[.int .i64 0, .string ⟨#[]⟩, .int .i64 0, .int .i64 0, .slice none 0 0] (0, 0) _ rfl (set5 (H0'.out.alloc _) _ _ _ _ _) Try.underlying40 rfl (by kernel_rfl)) rfl ?_
    rw [HEE.out]
    exact ⟨0, ⟨#[]⟩, 0, 0, none, 0, 0, _, rfl, left_set5 (left_below HL'.out (below_alloc (Below.refl _ _) _)) (H0'.out.alloc _) (by simp [NoU8]) (by simp [NoU8]) (by simp [NoU8]) (by simp [NoU8]) (by simp [NoU8]) (by have := HG.out; omega) HG.out.1 (Nat.le_refl _) _ _ _ _ _⟩
   | some p =>
    obtain ⟨x, r'⟩ := p
    rw [hr] at hc
    have HC := Aside0.mk hc
    have HRS := Aside0.mk (rest_some HRE.out hlt hr)
    clear hc hr
    go_wp2_with (fail)
    refine HC.out.mono ?_
    rintro e w' ⟨q3_, rfl, ho3, hl'⟩
    obtain ⟨B3, e3, rfl⟩ := Kd.R_slice ho3
    have HL' := Aside0.mk (left_below (HLL.out.trans hl') (below_alloc (Below.refl _ _) (.cells #[.int .i64 x.f0, .string x.f1, .int .i64 x.f2, .int .i64 x.f3, .slice B3 x.f4.length e3] 40)))
    have H0' := Aside0.mk ((H0.out.keep hl'.2.2 (by have := HG.out; omega)).alloc (.cells #[.int .i64 x.f0, .string x.f1, .int .i64 x.f2, .int .i64 x.f3, .slice B3 x.f4.length e3] 40))
    have HT' := Aside0.mk ((HT.out.keep hl'.2.2 (by have := HG.out; have := HGT.out; omega)).alloc (.cells #[.int .i64 x.f0, .string x.f1, .int .i64 x.f2, .int .i64 x.f3, .slice B3 x.f4.length e3] 40))
    have HR' := Aside0.mk (Kd.R_alloc (Kd.R_keep HR.out hl'.2.2 (fun _ h => h.1)) (.cells #[.int .i64 x.f0, .string x.f1, .int .i64 x.f2, .int .i64 x.f3, .slice B3 x.f4.length e3] 40))
    have HM := Aside0.mk (k40_mkM _ (gt + 1) (fun k => wx.heap.size ≤ k) x (Kd.R_mono (Kd.R_lower (Kd.R_bound (Kd.R_alloc ho3 (.cells #[.int .i64 x.f0, .string x.f1, .int .i64 x.f2, .int .i64 x.f3, .slice B3 x.f4.length e3] 40))) (by have := HT.out.lt; omega)) (fun _ h => h.2.1)))
    have HOK := Aside0.mk (show ∀ k, wx.heap.size ≤ k → (k ≠ g ∧ k ≠ gt) ∧ some k ≠ (Value.slice A3 n3 c3).ownBlock from fun k hk => ⟨⟨by have := HG.out; have := HT.out.lt; have := HGT.out; omega, by have := HT.out.lt; omega⟩, fun e => by have := Kd.R_lt HR.out k e.symm; omega⟩)
    have HSZ := Aside0.mk (show gt + 1 ≤ (w'.alloc (.cells #[.int .i64 x.f0, .string x.f1, .int .i64 x.f2, .int .i64 x.f3, .slice B3 x.f4.length e3] 40)).heap.size from HT'.out.lt)
    have HFR := Aside0.mk (show ∀ k, (w'.alloc (.cells #[.int .i64 x.f0, .string x.f1, .int .i64 x.f2, .int .i64 x.f3, .slice B3 x.f4.length e3] 40)).heap.size ≤ k → k ≠ g ∧ k ≠ gt from fun k hk => ⟨by have := HG.out; have := HGT.out; have := HSZ.out; omega, by have := HSZ.out; omega⟩)
    have HLN := Aside0.mk (show (ks.length + 1) * 64 ≤ 140737488355328 by have := HLK.out; have := HQ.out; have := HNL.out; omega)
    have y_0 := HT'.out.cell 0
    have y_1 := HT'.out.cell 1
    have y_2 := HT'.out.cell 2
    have y_3 := HT'.out.cell 3
    have y_4 := HT'.out.cell 4
    simp only [List.getElem?_toArray, List.getElem?_cons_zero, List.getElem?_cons_succ] at y_0 y_1 y_2 y_3 y_4
    clear ho3 hl'
    go_wp2_with (first | ((with_reducible refine gate_builtin (b := .append) (xs := #[.tmp 76, .tmp 78]) rfl ?_); at_builtin; go_must (refine Kd.R_append k40 (gt + 1) rfl (.tmp 76) (.tmp 78) 38 40 (.agg #[.int .i64 0, .string ⟨#[]⟩, .int .i64 0, .int .i64 0, .slice none 0 0]) 64 rfl Try.underlying38 info_s rfl (by decide) (by decide) _ ks x _ (fun k => k ≠ g ∧ k ≠ gt) (fun k => wx.heap.size ≤ k) rfl (by rw [size_alloc_]; rfl) HM.out HOK.out HFR.out HR'.out (Below.refl _ _) HSZ.out HLN.out ?_); intro v1 w1' hr1 hb1 hg1 _; obtain ⟨A9, c9, rfl⟩ := Kd.R_slice hr1; have HMORE := Aside0.mk (kids_more HT'.out HR'.out HL'.out H0'.out hr1 hb1 hg1 HG.out HGT.out); have y3 := blk_frozen HMORE.out.1 4; have y4 := HMORE.out.1.cell 4; simp only [List.getElem?_toArray, List.getElem?_cons_zero, List.getElem?_cons_succ] at y4; clear hr1 hb1 hg1))
    go_roundg (N - (i + 1))
    case measure => have := HQ.out; omega
    case rel => exact ⟨i + 1, ks ++ [x], some r', _, rfl, by first | rfl | rw [hw1], by omega, by simp [HLK.out], by have hm := HMORE.out.2; rw [List.length_append] at hm; exact hm, HRS.out⟩
  ·have hl1 : decide ((i : Int) < (N : Int)) = false := decide_eq_false (by omega)
   have HEE := Aside0.mk (HE.out.trans (by rw [rest_end HRE.out (by omega)]))
   have HKO := Aside0.mk (kids_out HR.out HLL.out H0.out HG.out HGT.out)
   have HTD := Aside0.mk (HT.out.below (below_drew1 (Below.refl _ _)))
   have H0D := Aside0.mk (H0.out.below (below_drew1 (Below.refl _ _)))
   have x0 := HTD.out.cell 0
   have x1 := HTD.out.cell 1
   have x2 := HTD.out.cell 2
   have x3 := HTD.out.cell 3
   have x4 := HTD.out.cell 4
   simp only [List.getElem?_toArray, List.getElem?_cons_zero, List.getElem?_cons_succ] at x0 x1 x2 x3 x4
   have y0 := blk_frozen H0D.out 0
   have y1 := blk_frozen H0D.out 1
   have y2 := blk_frozen H0D.out 2
   have y3 := blk_frozen H0D.out 3
   have y4 := blk_frozen H0D.out 4
   have z0 := H0D.out.cell 0
   have z1 := H0D.out.cell 1
   have z2 := H0D.out.cell 2
   have z3 := H0D.out.cell 3
   have z4 := H0D.out.cell 4
   simp only [List.getElem?_toArray, List.getElem?_cons_zero, List.getElem?_cons_succ] at z0 z1 z2 z3 z4
   have X0 := HT.out.cell 0
   have X1 := HT.out.cell 1
   have X2 := HT.out.cell 2
   have X3 := HT.out.cell 3
   have X4 := HT.out.cell 4
   simp only [List.getElem?_toArray, List.getElem?_cons_zero, List.getElem?_cons_succ] at X0 X1 X2 X3 X4
   have Y0 := blk_frozen H0.out 0
   have Y1 := blk_frozen H0.out 1
   have Y2 := blk_frozen H0.out 2
   have Y3 := blk_frozen H0.out 3
   have Y4 := blk_frozen H0.out 4
   have Z0 := H0.out.cell 0
   have Z1 := H0.out.cell 1
   have Z2 := H0.out.cell 2
   have Z3 := H0.out.cell 3
   have Z4 := H0.out.cell 4
   simp only [List.getElem?_toArray, List.getElem?_cons_zero, List.getElem?_cons_succ] at Z0 Z1 Z2 Z3 Z4
   go_wp2
   cases s with
   | none =>
    go_region_law (go_simp; go_at_call 89; refine (okO w0 _ g none (RdO.below HLL.out.1 (below_drew1 (Below.refl _ _)))).mono ?_; rintro e w2 ⟨rfl, rfl⟩)
    all_goals
     go_wp2_with (fail)
     refine bodyPost_ret (results_ct rfl _ _ w.heap.size 40 #[.int .i64 c, .string emptyS, .int .i64 0, .int .i64 0, .slice A3 n3 c3] (0, 0) _ rfl ((set5 H0.out _ _ _ _ _).below (below_drew1 (Below.refl _ _))) Try.underlying40 rfl (by kernel_rfl)) rfl ?_
     rw [HEE.out]
     exact ⟨c, emptyS, 0, 0, A3, n3, c3, none, rfl, left_below (HKO.out _ _ _ _ _).2 (below_drew1 (Below.refl _ _))⟩
   | some r' =>
    go_region_law (go_simp; go_at_call 89; refine (okO w0 _ g (some r') (RdO.below HLL.out.1 (below_drew1 (Below.refl _ _)))).mono ?_; rintro e w2 ⟨rfl, rfl⟩)
    all_goals
     go_wp2_with (fail)
     refine bodyPost_ret (results_ct rfl _ _ w.heap.size 40 #[.int .i64 c, .string emptyS, .int .i64 0, .int .i64 0, .slice A3 n3 c3] (0, 0) _ rfl ((set5 H0.out _ _ _ _ _).below (below_drew1 (Below.refl _ _))) Try.underlying40 rfl (by kernel_rfl)) rfl ?_
     rw [HEE.out]
     exact ⟨.slice A3 n3 c3, rfl, Kd.R_drew (HKO.out _ _ _ _ _).1, left_below (HKO.out _ _ _ _ _).2 (below_drew1 (Below.refl _ _))⟩

set_option maxHeartbeats 1000000 in
theorem read_c : ∀ (d : Nat), d ≤ 8 → ∀ (w0 w : World) (g : Nat) (st : Option (List Int)), RdO w0 w g st → Below w0.heap.size w0 w →
  Calls Try.prog 99 #[.pointer (some ⟨g, 0, none⟩), .int .i64 (d : Int)] w (ReadQ w0 w g (readS d st)) := by
 intro d
 induction d with
 | zero =>
  intro hd w0 w g st h hB
  match st, h with
  | none, h => exact read_fail 0 hd w0 w g none h hB (by simp [takeO])
  | some [], h => exact read_fail 0 hd w0 w g (some []) h hB (by simp [takeO])
  | some (c :: r), h => exact read_zero w0 w g c r h hB
 | succ d ih =>
  intro hd w0 w g st h hB
  match st, h with
  | none, h => exact read_fail (d + 1) hd w0 w g none h hB (by simp [takeO])
  | some [], h => exact read_fail (d + 1) hd w0 w g (some []) h hB (by simp [takeO])
  | some (c :: r), h =>
   have ih' := ih (by omega)
   cases hn : namedB c with
   | true => exact read_N d hd ih' w0 w g c r h hB hn
   | false =>
    by_cases h5 : c = 5
    ·exact read_T d hd ih' w0 w g c r h hB hn h5
    by_cases h6 : c = 6
    ·exact read_M6 d hd ih' w0 w g c r h hB hn h6
    by_cases h7 : c = 7
    ·exact read_M7 d hd ih' w0 w g c r h hB hn h7
    exact read_O d hd ih' w0 w g c r h hB hn h5 h6 h7

end Go.Proofs.Ytgdpabedlghiaaa.Scope
/- The walks of the document's reader. -/
namespace Go.Proofs.Ytgdpabedlghiaaa.Rf
open Go.Proofs.Ytgdpabedlghiaaa.Base Go.Proofs.Ytgdpabedlghiaaa.TlvPlain Go.Proofs.Ytgdpabedlghiaaa.Lo Go.RowKit Go.Proofs.YtgdpabedlghiaaaW.PrintWords Go.Proofs.YtgdpabedlghiaaaW.PrintLast Go.Proofs.YtgdpabedlghiaaaW.PrintMore

/-- A cut of bytes, and in which block it lies. -/
theorem cut2 {P : Program} (t e : TypeId) (kl : IntKind) {i : TypeInfo} (ht : P.underlying t = some (.slice e)) (hi : P.info? e = some i) (hsz : i.size = 1) (A : Option Addr) (n c m : Nat) (hm : m ≤ n) :
    ∃ A' : Option Addr, (∀ W : World, (Instr.slice t (.slice A n c) (some (.int kl (m : Int))) none none).run P W = .ok (.slice A' (n - m) (c - m)) W) ∧
      (∀ (w : World) (k : IntKind) (xs : List Int), n ≤ c → ReadsInt w k A n xs → ReadsInt w k A' (n - m) (xs.drop m)) ∧ (∀ ad', A' = some ad' → ∃ ad, A = some ad ∧ ad'.block = ad.block) := by
  refine ⟨if c = m then A else A.map (·.add m), fun W => ?_, fun w k xs hc h => h.drop_ m hm hc, fun ad' h => ?_⟩
  · have hel : P.elem t = e := by simp [Program.elem, ht]
    have hu : P.underlying t = some (.slice (P.elem t)) := by rw [hel]; exact ht
    rw [run_slice_l W t A n c hu kl (m : Int) (Int.natCast_nonneg _) (by omega), hel]
    simp [sizeOf, typeInfo, hi, hsz, sliced, Result.andThen]
  · split at h
    · exact ⟨ad', h, rfl⟩
    · obtain ⟨ad, h1, rfl⟩ := Option.map_eq_some_iff.1 h
      exact ⟨ad, h1, by unfold Addr.add; split <;> rfl⟩
/-- The document's reader at block g: the bytes that are left, and whether it failed. -/
def Rdr (w0 W : World) (g : Nat) (failed : Bool) (bs : List Int) : Prop :=
  w0.heap.size ≤ g ∧ ∃ A c, W.heap[g]? = some (.cells #[.slice A bs.length c, .bool failed] 115 (0, 0)) ∧ bs.length ≤ c ∧ Rb W A bs ∧ bs.length < 140737488355328 ∧ U8 bs ∧ ∀ ad, A = some ad → ad.block < g
theorem Rdr.lower {w0 w1 W : World} {g : Nat} {f : Bool} {bs : List Int} (h : Rdr w1 W g f bs) (hs : w0.heap.size ≤ w1.heap.size) : Rdr w0 W g f bs := ⟨Nat.le_trans hs h.1, h.2⟩
theorem cells_no_int {f : Bool} {A : Option Addr} {n c : Nat} (i : Nat) (v : Value) (h : (#[.slice A n c, Value.bool f] : Array Value)[i]? = some v) (k : Int) : v ≠ .int .u8 k := by
  match i, h with
  | 0, h => cases h; simp
  | 1, h => cases h; simp
theorem Rdr.below {w0 W W1 : World} {g : Nat} {f : Bool} {bs : List Int} (h : Rdr w0 W g f bs) (hb : Below W.heap.size W W1) : Rdr w0 W1 g f bs := by
  obtain ⟨h0, A, c, h1, h2, h3, h4⟩ := h
  exact ⟨h0, A, c, (hb.block g (blk_lt h1)).trans h1, h2, Kd.C_below h3 hb, h4⟩
/-- Where another block alone was written, in which no numbers lie. -/
theorem Rdr.keep {w0 W W1 : World} {g g' : Nat} {f : Bool} {bs : List Int} (h : Rdr w0 W g f bs) (hk : KeepBut W W1 g' none) (hne : g ≠ g') {T : Nat} {cs : Array Value} (hb : W.heap[g']? = some (.cells cs T (0, 0))) (hcs : ∀ i : Nat, ∀ v, cs[i]? = some v → ∀ n, v ≠ Value.int .u8 n) : Rdr w0 W1 g f bs := by
  obtain ⟨h0, A, c, h1, h2, h3, h4⟩ := h
  exact ⟨h0, A, c, hk.blk h1 hne (by simp), h2, reads_keep h3 hk (reads_ne hb hcs h3), h4⟩
theorem Rdr.grown {w0 W W1 : World} {g : Nat} {f : Bool} {bs : List Int} {row : Option Nat} (h : Rdr w0 W g f bs) (hg : W.grownBy W1 row) (hr : ∀ b, row = some b → g < b) : Rdr w0 W1 g f bs := by
  obtain ⟨h0, A, c, h1, h2, h3, h4⟩ := h
  have hne : some g ≠ row := fun e => Nat.lt_irrefl g (hr g e.symm)
  refine ⟨h0, A, c, blk_grown h1 hg hne, h2, ?_, h4⟩
  cases row with
  | none => exact reads_keep h3 (KeepBut.of_grown hg W.heap.size) (fun ad e _ => by have := h4.2.2 ad e; have := blk_lt h1; omega)
  | some q =>
    have hk : KeepBut W W1 q none := ⟨hg.size, fun i hi h1 _ => hg.block i hi (fun e => h1 (Option.some.inj e))⟩
    exact reads_keep h3 hk (fun ad e _ => by have := h4.2.2 ad e; have := hr q rfl; omega)
theorem Rdr.set {w0 W : World} {g : Nat} {f : Bool} {bs : List Int} (h : Rdr w0 W g f bs) (f' : Bool) : Rdr w0 (W.setCell ⟨g, 1, none⟩ (.bool f')) g f' bs := by
  obtain ⟨h0, A, c, h1, h2, h3, h4⟩ := h
  exact ⟨h0, A, c, by simpa using blk_set h1 1 (.bool f'), h2, reads_keep h3 (keep_set _ _ _ _) (reads_ne h1 cells_no_int h3), h4⟩
theorem Rdr.cut {w0 W : World} {g : Nat} {f : Bool} {bs cs : List Int} (h : Rdr w0 W g f bs) {A' : Option Addr} {c' : Nat} (hc : cs.length ≤ c') (hr : Rb W A' cs) (hl : cs.length ≤ bs.length) (hu : U8 cs) (hbl : ∀ ad, A' = some ad → ad.block < g) : Rdr w0 (W.setCell ⟨g, 0, none⟩ (.slice A' cs.length c')) g f cs := by
  obtain ⟨h0, A, c, h1, h2, h3, h4⟩ := h
  exact ⟨h0, A', c', by simpa using blk_set h1 0 (.slice A' cs.length c'), hc, reads_keep hr (keep_set _ _ _ _) (reads_ne h1 cells_no_int hr), Nat.lt_of_le_of_lt hl h4.1, hu, hbl⟩

/-- The reader's state: the bytes that are left, or that it failed. -/
def RfO (w0 W : World) (g : Nat) (st : Option (List Int)) : Prop :=
  match st with
  | some bs => Rdr w0 W g false bs
  | none => ∃ bs, Rdr w0 W g true bs
theorem RfO.any {w0 W : World} {g : Nat} {st : Option (List Int)} (h : RfO w0 W g st) : ∃ bs, Rdr w0 W g (!st.isSome) bs := by
  cases st with
  | some bs => exact ⟨bs, h⟩
  | none => exact h
theorem RfO.below {w0 W W1 : World} {g : Nat} {st : Option (List Int)} (h : RfO w0 W g st) (hb : Below W.heap.size W W1) : RfO w0 W1 g st := by
  cases st with
  | some bs => exact Rdr.below h hb
  | none => obtain ⟨bs, h⟩ := h; exact ⟨bs, h.below hb⟩
theorem RfO.keep {w0 W W1 : World} {g g' : Nat} {st : Option (List Int)} (h : RfO w0 W g st) (hk : KeepBut W W1 g' none) (hne : g ≠ g') {T : Nat} {cs : Array Value} (hb : W.heap[g']? = some (.cells cs T (0, 0))) (hcs : ∀ i : Nat, ∀ v, cs[i]? = some v → ∀ n, v ≠ Value.int .u8 n) : RfO w0 W1 g st := by
  cases st with
  | some bs => exact Rdr.keep h hk hne hb hcs
  | none => obtain ⟨bs, h⟩ := h; exact ⟨bs, h.keep hk hne hb hcs⟩
theorem RfO.grown {w0 W W1 : World} {g : Nat} {st : Option (List Int)} {row : Option Nat} (h : RfO w0 W g st) (hg : W.grownBy W1 row) (hr : ∀ b, row = some b → g < b) : RfO w0 W1 g st := by
  cases st with
  | some bs => exact Rdr.grown h hg hr
  | none => obtain ⟨bs, h⟩ := h; exact ⟨bs, h.grown hg hr⟩
theorem RfO.lower {w0 w1 W : World} {g : Nat} {st : Option (List Int)} (h : RfO w1 W g st) (hs : w0.heap.size ≤ w1.heap.size) : RfO w0 W g st := by
  cases st with
  | some bs => exact Rdr.lower h hs
  | none => obtain ⟨bs, h⟩ := h; exact ⟨bs, h.lower hs⟩
theorem RfO.blk {w0 W : World} {g : Nat} {st : Option (List Int)} (h : RfO w0 W g st) : w0.heap.size ≤ g ∧ g < W.heap.size ∧ ∃ cs, W.heap[g]? = some (.cells cs 115 (0, 0)) ∧ ∀ i : Nat, ∀ v, cs[i]? = some v → ∀ n, v ≠ Value.int .u8 n := by
  obtain ⟨bs, h0, A, c, h1, _⟩ := h.any
  exact ⟨h0, blk_lt h1, _, h1, cells_no_int⟩
theorem RfO.u8 {w0 W : World} {g : Nat} {bs : List Int} (h : RfO w0 W g (some bs)) : U8 bs ∧ bs.length < 140737488355328 := by
  obtain ⟨_, _, _, _, _, _, h1, h2⟩ := (show Rdr w0 W g false bs from h)
  exact ⟨h2.1, h1⟩
/-- What its field Fail reads as. -/
theorem RfO.fail {w0 W : World} {g : Nat} {st : Option (List Int)} (h : RfO w0 W g st) : W.cell? ⟨g, 1, none⟩ = some (.bool (!st.isSome)) ∧ W.frozen? ⟨g, 1, none⟩ = false := by
  obtain ⟨bs, _, A, c, h1, _⟩ := h.any
  exact ⟨(blk_cell h1 1).trans rfl, blk_frozen h1 1⟩
/-- What its field B reads as. -/
theorem RfO.bytes {w0 W : World} {g : Nat} {bs : List Int} (h : RfO w0 W g (some bs)) : ∃ A c, W.cell? ⟨g, 0, none⟩ = some (.slice A bs.length c) ∧ bs.length ≤ c ∧ Rb W A bs := by
  obtain ⟨_, A, c, h1, h2, h3, _⟩ := (show Rdr w0 W g false bs from h)
  exact ⟨A, c, (blk_cell h1 0).trans rfl, h2, h3⟩
theorem RfO.set {w0 W : World} {g : Nat} {st : Option (List Int)} (h : RfO w0 W g st) : RfO w0 (W.setCell ⟨g, 1, none⟩ (.bool true)) g none := by
  obtain ⟨bs, h⟩ := h.any
  exact ⟨bs, h.set true⟩
/-- What a call that is handed a reader leaves. -/
def Left (w0 w w' : World) (g : Nat) (st : Option (List Int)) : Prop := RfO w0 w' g st ∧ Below w0.heap.size w0 w' ∧ KeepBut w w' g none
theorem Left.trans {w0 w w1 w2 : World} {g : Nat} {s1 s2 : Option (List Int)} (h : Left w0 w w1 g s1) (k : Left w0 w1 w2 g s2) : Left w0 w w2 g s2 := ⟨k.1, k.2.1, h.2.2.trans k.2.2 (.inl rfl)⟩
theorem Left.set {w0 w w' : World} {g : Nat} {st : Option (List Int)} (h : Left w0 w w' g st) : Left w0 w (w'.setCell ⟨g, 1, none⟩ (.bool true)) g none := ⟨h.1.set, below_set h.2.1 h.1.blk.1, h.2.2.set_ 1 _⟩

set_option maxHeartbeats 1600000 in
set_option maxRecDepth 100000 in
theorem take_bad (w0 w : World) (g : Nat) (f : Bool) (bs : List Int) (n : Int) (h : Rdr w0 w g f bs) (hB : Below w0.heap.size w0 w) (hbad : ¬ (f = false ∧ 0 ≤ n ∧ n ≤ bs.length)) :
    Calls Try.prog 122 #[.pointer (some ⟨g, 0, none⟩), .int .i64 n] w fun e w' => ∃ v, e = .returned v ∧ Ob w' w.heap.size v [] ∧ Left w0 w w' g none := by
  have HB := Aside0.mk hB
  clear hB
  have hfin : Left w0 w (w.setCell ⟨g, 1, none⟩ (.bool true)) g none := ⟨⟨bs, h.set true⟩, below_set HB.out h.1, keep_set _ _ _ _⟩
  have HF := Aside0.mk hfin
  clear hfin
  obtain ⟨_, A, c, h1, _⟩ := h
  have hc0 : w.cell? ⟨g, 0, none⟩ = some (.slice A bs.length c) := (blk_cell h1 0).trans rfl
  have hc1 : w.cell? ⟨g, 1, none⟩ = some (.bool f) := (blk_cell h1 1).trans rfl
  have hf1 := blk_frozen h1 1
  clear h1
  cases f with
  | false =>
    by_cases hn : n < 0
    · have hd : decide (n < 0) = true := decide_eq_true hn
      clear hbad hn
      go_enter Try.func122, Try.ntmps122
      go_wp2
      go_ret
      exact ⟨_, rfl, Kd.R_nil _ _ _ _ _, HF.out⟩
    · have hd : decide (n < 0) = false := decide_eq_false hn
      have hg : decide ((bs.length : Int) < n) = true := decide_eq_true (by
        by_cases h2 : (bs.length : Int) < n
        · exact h2
        · exact absurd ⟨rfl, by omega, by omega⟩ hbad)
      clear hbad hn
      go_enter Try.func122, Try.ntmps122
      go_wp2
      go_ret
      exact ⟨_, rfl, Kd.R_nil _ _ _ _ _, HF.out⟩
  | true =>
    clear hbad
    go_enter Try.func122, Try.ntmps122
    go_wp2
    go_ret
    exact ⟨_, rfl, Kd.R_nil _ _ _ _ _, HF.out⟩

set_option maxHeartbeats 1600000 in
set_option maxRecDepth 100000 in
theorem take_good (w0 w : World) (g : Nat) (bs : List Int) (n : Nat) (h : Rdr w0 w g false bs) (hB : Below w0.heap.size w0 w) (hn : n ≤ bs.length) :
    Calls Try.prog 122 #[.pointer (some ⟨g, 0, none⟩), .int .i64 n] w fun e w' => ∃ v, e = .returned v ∧ Ob w' w.heap.size v (bs.take n) ∧ Left w0 w w' g (some (bs.drop n)) := by
  have HI := Aside0.mk h
  have HB := Aside0.mk hB
  clear hB
  obtain ⟨hg0, A, c, h1, h2, h3, h4⟩ := h
  have hnn : (0 : Int) ≤ (n : Int) := Int.natCast_nonneg _
  have hnc : (n : Int) ≤ (c : Int) := by omega
  have hd0 : decide ((n : Int) < 0) = false := decide_eq_false (by omega)
  have hd1 : decide ((bs.length : Int) < (n : Int)) = false := decide_eq_false (by omega)
  have hd2 : decide (bs.length < n) = false := decide_eq_false (by omega)
  have hc0 : w.cell? ⟨g, 0, none⟩ = some (.slice A bs.length c) := (blk_cell h1 0).trans rfl
  have hc1 : w.cell? ⟨g, 1, none⟩ = some (.bool false) := (blk_cell h1 1).trans rfl
  have hf0 := blk_frozen h1 0
  have HGL := Aside0.mk (blk_lt h1)
  have h3' := Kd.reads_of_C (d := (0 : Int)) h3
  have hlen : bs.length ≤ 9223372036854775807 := h3'.2.1
  obtain ⟨i0, hi, hz0, hz1, hz2⟩ := info_parts info_u8
  obtain ⟨A', hcut, hA', hbk⟩ := cut2 (P := Try.prog) 27 5 .i64 Try.underlying27 hi hz1 A bs.length c n hn
  have hrest : Rb w A' (bs.drop n) := by
    have := Kd.C_of_reads (d := (0 : Int)) (h1 := fun _ => rfl) (hA' w .u8 bs h2 h3')
    rwa [← List.length_drop] at this
  have hfirst : Rb w A (bs.take n) := by
    have h5 := Kd.C_of_reads (d := (0 : Int)) (h1 := fun _ => rfl) (ReadsInt.take_ h3' n hn)
    show Kd.C _ w A (bs.take n).length (bs.take n)
    rw [show (bs.take n).length = n from by rw [List.length_take]; omega]
    exact h5
  have HREST := Aside0.mk hrest
  have HFIRST := Aside0.mk hfirst
  have HU := Aside0.mk (h4.2.1.drop n)
  have HBK := Aside0.mk (show ∀ ad, A' = some ad → ad.block < g from fun ad' e => by obtain ⟨ad, e2, e3⟩ := hbk ad' e; rw [e3]; exact h4.2.2 ad e2)
  have HTL := Aside0.mk (show (bs.take n).length = n by rw [List.length_take]; omega)
  have HBL := Aside0.mk (show n < 140737488355328 by have := h4.1; omega)
  have HNC := Aside0.mk (show n ≤ c by omega)
  have HDL := Aside0.mk (show (bs.drop n).length ≤ c - n ∧ (bs.drop n).length ≤ bs.length by rw [List.length_drop]; omega)
  clear hrest hfirst h1 h3 h4 hA' hbk h3' hi hz0 hz1 hz2 hg0
  go_enter Try.func122, Try.ntmps122
  go_wp2_with (go_at_call 93; refine (copy_n A c n (bs.take n) _ HFIRST.out HTL.out HNC.out HBL.out).mono ?_; rintro e w1 ⟨v, rfl, ho, hb⟩; have HO := Aside0.mk ho; have HW := Aside0.mk hb; have hd0' := (hb.cell (p := ⟨g, 0, none⟩) HGL.out).trans hc0; have hf0' := (hb.frozen (p := ⟨g, 0, none⟩) HGL.out).trans hf0; clear ho hb hc0 hc1 hf0)
  go_ret
  have hR := ((HI.out.below HW.out).cut HDL.out.1 (Kd.C_below HREST.out HW.out) HDL.out.2 HU.out HBK.out)
  rw [List.length_drop] at hR
  refine ⟨_, rfl, Kd.R_mono (Kd.R_far (Kd.R_bound HO.out) (p := ⟨g, 0, none⟩) (fun k hk e => ?_) _) (fun _ _ => trivial), hR, below_set (HB.out.trans (HW.out.mono HB.out.size)) HI.out.1, (KeepBut.of_below HW.out g none).set_ 0 _⟩
  have h1 := hk.2.1
  have h2 := HGL.out
  dsimp only at e
  omega

theorem takeO_ (w0 w : World) (g : Nat) (st : Option (List Int)) (n : Int) (h : RfO w0 w g st) (hB : Below w0.heap.size w0 w) :
    Calls Try.prog 122 #[.pointer (some ⟨g, 0, none⟩), .int .i64 n] w fun e w' => ∃ v, e = .returned v ∧ Ob w' w.heap.size v (takeO st n).1 ∧ Left w0 w w' g (takeO st n).2 := by
  cases st with
  | some bs =>
    by_cases hn : 0 ≤ n ∧ n ≤ bs.length
    · obtain ⟨m, rfl⟩ := Int.eq_ofNat_of_zero_le hn.1
      have e : takeO (some bs) (m : Int) = (bs.take m, some (bs.drop m)) := by simp only [takeO]; rw [if_pos hn]; rfl
      rw [e]
      exact take_good w0 w g bs m h hB (by omega)
    · have e : takeO (some bs) n = ([], none) := by simp only [takeO]; rw [if_neg hn]
      rw [e]
      exact take_bad w0 w g false bs n h hB (fun h => hn h.2)
  | none =>
    obtain ⟨bs, h⟩ := h
    exact take_bad w0 w g true bs n h hB (fun h => by cases h.1)
theorem take1_cons (x : Int) (r : List Int) : takeO (some (x :: r)) 1 = ([x], some r) := by
  simp only [takeO]
  rw [if_pos (by rw [List.length_cons]; omega)]
  rfl

set_option maxHeartbeats 1600000 in
set_option maxRecDepth 100000 in
theorem num_none (w0 w : World) (g : Nat) (st : Option (List Int)) (h : RfO w0 w g st) (hB : Below w0.heap.size w0 w) (hst : takeO st 1 = ([], none)) :
    Calls Try.prog 123 #[.pointer (some ⟨g, 0, none⟩)] w fun e w' => e = .returned (.int .u64 0) ∧ Left w0 w w' g none := by
  have HS := Aside0.mk h
  have HB := Aside0.mk hB
  have E1 := Aside0.mk hst
  clear h hB hst
  go_enter Try.func123, Try.ntmps123
  go_wp2_with (first
    | (go_at_call 122; refine (takeO_ _ _ _ _ _ HS.out HB.out).mono ?_; rintro e w1 ⟨v, rfl, ho, hl⟩; rw [E1.out] at ho hl; have HL := Aside0.mk hl; have hc1 : w1.cell? ⟨g, 1, none⟩ = some (.bool true) := hl.1.fail.1; have hf1 := hl.1.fail.2; clear ho hl))
  go_ret
  exact ⟨rfl, HL.out.set⟩

set_option maxHeartbeats 1600000 in
set_option maxRecDepth 100000 in
theorem num_wide (w0 w : World) (g : Nat) (x : Int) (r : List Int) (h : RfO w0 w g (some (x :: r))) (hB : Below w0.heap.size w0 w) (hx : 8 < x) :
    Calls Try.prog 123 #[.pointer (some ⟨g, 0, none⟩)] w fun e w' => e = .returned (.int .u64 0) ∧ Left w0 w w' g none := by
  have HS := Aside0.mk h
  have HB := Aside0.mk hB
  have E1 := Aside0.mk (take1_cons x r)
  have hd : decide (8 < x) = true := decide_eq_true hx
  clear h hB hx
  go_enter Try.func123, Try.ntmps123
  go_wp2_with (first
    | (go_at_call 122; refine (takeO_ _ _ _ _ _ HS.out HB.out).mono ?_; rintro e w1 ⟨v, rfl, ho, hl⟩; rw [E1.out] at ho hl; have HL := Aside0.mk hl; have hc1 : w1.cell? ⟨g, 1, none⟩ = some (.bool false) := hl.1.fail.1; have hf1 := hl.1.fail.2; obtain ⟨A, c, rfl, hlc, hrd⟩ := Ob.reads ho; obtain ⟨ad, rfl, hc0⟩ := Rb.at0 hrd; clear ho hl hrd hlc))
  go_ret
  exact ⟨rfl, HL.out.set⟩

set_option maxHeartbeats 1600000 in
set_option maxRecDepth 100000 in
theorem num_short (w0 w : World) (g : Nat) (x : Int) (r : List Int) (h : RfO w0 w g (some (x :: r))) (hB : Below w0.heap.size w0 w) (hx0 : 0 ≤ x) (hx : x ≤ 8) (hl : (r.length : Int) < x) :
    Calls Try.prog 123 #[.pointer (some ⟨g, 0, none⟩)] w fun e w' => e = .returned (.int .u64 0) ∧ Left w0 w w' g none := by
  have HS := Aside0.mk h
  have HB := Aside0.mk hB
  have E1 := Aside0.mk (take1_cons x r)
  have E2 := Aside0.mk (show takeO (some r) x = ([], none) by simp only [takeO]; rw [if_neg (by omega)])
  have hd : decide (8 < x) = false := decide_eq_false (by omega)
  clear h hB hl
  go_enter Try.func123, Try.ntmps123
  go_wp2_with (fail)
  refine (takeO_ _ _ _ _ _ HS.out HB.out).mono ?_; rintro e w1 ⟨v, rfl, ho, hl⟩; rw [E1.out] at ho hl; have HL := Aside0.mk hl; have hc1 : w1.cell? ⟨g, 1, none⟩ = some (.bool false) := hl.1.fail.1; obtain ⟨A, c, rfl, hlc, hrd⟩ := Ob.reads ho; obtain ⟨ad, rfl, hc0⟩ := Rb.at0 hrd; clear ho hl hrd hlc
  go_wp2_with (fail)
  refine (takeO_ _ _ _ _ _ HL.out.1 HL.out.2.1).mono ?_; rintro e w2 ⟨v, rfl, ho, hl⟩; rw [E2.out] at ho hl; have HL2 := Aside0.mk (HL.out.trans hl); have hc2 : w2.cell? ⟨g, 1, none⟩ = some (.bool true) := hl.1.fail.1; have hf2 := hl.1.fail.2; clear HL ho hl hc1 hc0
  go_wp2
  go_ret
  exact ⟨rfl, HL2.out.set⟩

set_option maxHeartbeats 1600000 in
set_option maxRecDepth 100000 in
theorem num_zero (w0 w : World) (g : Nat) (x y : Int) (r : List Int) (h : RfO w0 w g (some (x :: y :: r))) (hB : Below w0.heap.size w0 w) (hx0 : 0 < x) (hx : x ≤ 8) (hl : x ≤ (r.length : Int) + 1) (hy : y = 0) :
    Calls Try.prog 123 #[.pointer (some ⟨g, 0, none⟩)] w fun e w' => e = .returned (.int .u64 0) ∧ Left w0 w w' g none := by
  subst hy
  have HS := Aside0.mk h
  have HB := Aside0.mk hB
  have E1 := Aside0.mk (take1_cons x (0 :: r))
  have E2 := Aside0.mk (show takeO (some (0 :: r)) x = (0 :: r.take (x.toNat - 1), some ((0 :: r).drop x.toNat)) by
    simp only [takeO]
    rw [if_pos (by rw [List.length_cons]; omega)]
    obtain ⟨m, hm⟩ : ∃ m, x.toNat = m + 1 := ⟨x.toNat - 1, by omega⟩
    rw [hm]; rfl)
  have hd : decide (8 < x) = false := decide_eq_false (by omega)
  clear h hB hl
  go_enter Try.func123, Try.ntmps123
  go_wp2_with (fail)
  refine (takeO_ _ _ _ _ _ HS.out HB.out).mono ?_; rintro e w1 ⟨v, rfl, ho, hl⟩; rw [E1.out] at ho hl; have HL := Aside0.mk hl; have hc1 : w1.cell? ⟨g, 1, none⟩ = some (.bool false) := hl.1.fail.1; obtain ⟨A, c, rfl, hlc, hrd⟩ := Ob.reads ho; obtain ⟨ad, rfl, hc0⟩ := Rb.at0 hrd; clear ho hl hrd hlc
  go_wp2_with (fail)
  refine (takeO_ _ _ _ _ _ HL.out.1 HL.out.2.1).mono ?_; rintro e w2 ⟨v, rfl, ho, hl⟩; rw [E2.out] at ho hl; have HL2 := Aside0.mk (HL.out.trans hl); have hc3 : w2.cell? ⟨g, 1, none⟩ = some (.bool false) := hl.1.fail.1; have hf3 := hl.1.fail.2; obtain ⟨A2, c2, rfl, hlc, hrd⟩ := Ob.reads ho; obtain ⟨ad2, rfl, hc2⟩ := Rb.at0 hrd; clear HL ho hl hlc hrd hc1 hc0
  have hl0 : decide (0 < (0 :: r.take (x.toNat - 1)).length) = true := decide_eq_true (by simp)
  generalize (0 :: r.take (x.toNat - 1)).length = nn at hl0 ⊢
  have hl2 : 0 < nn := of_decide_eq_true hl0
  have hl1 : decide (0 < (nn : Int)) = true := decide_eq_true (by omega)
  go_wp2
  go_ret
  exact ⟨rfl, HL2.out.set⟩

set_option maxHeartbeats 3200000 in
set_option maxRecDepth 100000 in
theorem num_good (w0 w : World) (g : Nat) (x : Int) (r : List Int) (h : RfO w0 w g (some (x :: r))) (hB : Below w0.heap.size w0 w) (hx0 : 0 ≤ x) (hx : x ≤ 8) (hl : x ≤ (r.length : Int)) (hy : ¬ (0 < x ∧ r.getD 0 0 = 0)) :
    Calls Try.prog 123 #[.pointer (some ⟨g, 0, none⟩)] w fun e w' => e = .returned (.int .u64 (valueB (r.take x.toNat))) ∧ Left w0 w w' g (some (r.drop x.toNat)) := by
  have HS := Aside0.mk h
  have HB := Aside0.mk hB
  have HU := Aside0.mk ((h.u8.1.tail).take x.toNat)
  have E1 := Aside0.mk (take1_cons x r)
  have E2 := Aside0.mk (show takeO (some r) x = (r.take x.toNat, some (r.drop x.toNat)) by simp only [takeO]; rw [if_pos ⟨hx0, hl⟩])
  obtain ⟨l, hL⟩ : ∃ l, l = r.take x.toNat := ⟨_, rfl⟩
  have hlen : l.length = x.toNat := by rw [hL, List.length_take]; omega
  have hb : (decide (0 < l.length) && (rd l 0 == 0)) = false := by
    rw [Bool.and_eq_false_iff]
    by_cases h0 : 0 < x
    · right
      rw [beq_eq_false_iff_ne]
      intro e
      apply hy
      refine ⟨h0, ?_⟩
      rw [hL] at e
      obtain ⟨m, hm⟩ : ∃ m, x.toNat = m + 1 := ⟨x.toNat - 1, by omega⟩
      cases r with
      | nil => simp at hl; omega
      | cons y r => simpa [rd, hm] using e
    · left
      exact decide_eq_false (by omega)
  rw [← hL] at HU E2 ⊢
  have H8 := Aside0.mk (show l.length ≤ 8 by omega)
  have hd : decide (8 < x) = false := decide_eq_false (by omega)
  clear h hB hl hy hL hlen
  go_enter Try.func123, Try.ntmps123
  go_wp2_with (fail)
  refine (takeO_ _ _ _ _ _ HS.out HB.out).mono ?_; rintro e w1 ⟨v, rfl, ho, hl⟩; rw [E1.out] at ho hl; have HL := Aside0.mk hl; have hc1 : w1.cell? ⟨g, 1, none⟩ = some (.bool false) := hl.1.fail.1; obtain ⟨A, c, rfl, hlc, hrd⟩ := Ob.reads ho; obtain ⟨ad, rfl, hc0⟩ := Rb.at0 hrd; clear ho hl hrd hlc
  go_wp2_with (fail)
  refine (takeO_ _ _ _ _ _ HL.out.1 HL.out.2.1).mono ?_; rintro e w2 ⟨v, rfl, ho, hl⟩; rw [E2.out] at ho hl; have HL2 := Aside0.mk (HL.out.trans hl); have hc3 : w2.cell? ⟨g, 1, none⟩ = some (.bool false) := hl.1.fail.1; obtain ⟨A2, c2, rfl, hlc, hrd⟩ := Ob.reads ho; have HRD := Aside0.mk hrd; have HLC := Aside0.mk hlc; clear HL ho hl hlc hrd hx0 hc1 hc0
  by_cases hz : 0 < l.length
  · have hzi : (0 : Int) < (l.length : Int) := by omega
    obtain ⟨ad2, hA2, hc2⟩ := Kd.at_int HRD.out 0 (Int.le_refl _) hzi
    subst hA2
    have hz0 : decide (0 < l.length) = true := decide_eq_true hz
    have hz1 : decide (0 < (l.length : Int)) = true := decide_eq_true (by omega)
    have hb1 : (rd l 0 == 0) = false := by rw [hz0, Bool.true_and] at hb; exact hb
    have hc5 : w2.cell? ad2 = some (.int .u8 (rd l 0)) := by simpa [Addr.add] using hc2
    clear hb hc2
    go_wp2_with (go_at_call 124; refine (value_c _ c2 l _ HRD.out HLC.out HU.out H8.out).mono ?_; rintro e w' ⟨rfl, ⟨m1, rfl⟩⟩)
    go_ret
    exact ⟨rfl, HL2.out.1.below (Drawn0.mk ⟨m1, rfl⟩).below, pw_below_drewN HL2.out.2.1 m1, keep_drewN HL2.out.2.2 m1⟩
  · have hz0 : decide (0 < l.length) = false := decide_eq_false hz
    have hl0 : l = [] := List.length_eq_zero_iff.1 (by omega)
    subst hl0
    clear hb hz hz0
    have hf0 : decide ((0 : Int) < 0) = false := rfl
    go_wp2_with (go_at_call 124; refine (value_c A2 c2 [] _ HRD.out HLC.out HU.out H8.out).mono ?_; rintro e w' ⟨rfl, ⟨m1, rfl⟩⟩)
    go_ret
    exact ⟨rfl, HL2.out.1.below (Drawn0.mk ⟨m1, rfl⟩).below, pw_below_drewN HL2.out.2.1 m1, keep_drewN HL2.out.2.2 m1⟩

theorem numO_ (w0 w : World) (g : Nat) (st : Option (List Int)) (h : RfO w0 w g st) (hB : Below w0.heap.size w0 w) :
    Calls Try.prog 123 #[.pointer (some ⟨g, 0, none⟩)] w fun e w' => e = .returned (.int .u64 (numO st).1) ∧ Left w0 w w' g (numO st).2 := by
  match st, h with
  | none, h => exact num_none w0 w g none h hB rfl
  | some [], h => exact num_none w0 w g (some []) h hB rfl
  | some (x :: r), h =>
    have hx0 := h.u8.1.head.1
    simp only [numO]
    by_cases h1 : x > 8
    · rw [if_pos h1]; exact num_wide w0 w g x r h hB h1
    · rw [if_neg h1]
      by_cases h2 : (r.length : Int) < x
      · rw [if_pos h2]; exact num_short w0 w g x r h hB hx0 (by omega) h2
      · rw [if_neg h2]
        by_cases h3 : 0 < x ∧ r.getD 0 0 = 0
        · rw [if_pos h3]
          cases r with
          | nil => simp at h2; omega
          | cons y r => exact num_zero w0 w g x y r h hB h3.1 (by omega) (by simp at h2; omega) (by simpa using h3.2)
        · rw [if_neg h3]; exact num_good w0 w g x r h hB hx0 (by omega) (by omega) h3

set_option maxHeartbeats 1600000 in
set_option maxRecDepth 100000 in
theorem countO_ (w0 w : World) (g : Nat) (st : Option (List Int)) (most : Int) (h : RfO w0 w g st) (hB : Below w0.heap.size w0 w) (hm : most ≤ 9223372036854775807) :
    Calls Try.prog 95 #[.pointer (some ⟨g, 0, none⟩), .int .i64 most] w fun e w' => e = .returned (.int .i64 (countO st most).1) ∧ Left w0 w w' g (countO st most).2 := by
  have HS := Aside0.mk h
  have HB := Aside0.mk hB
  have hr := numO_range (st := st) (fun bs e => by subst e; exact h.u8.1)
  unfold countO
  obtain ⟨nv, hnv⟩ : ∃ nv, nv = (numO st).1 := ⟨_, rfl⟩
  rw [← hnv] at hr ⊢
  have HN := Aside0.mk hnv
  have HR := Aside0.mk hr
  have HM := Aside0.mk hm
  clear hm
  clear hr hnv h hB
  by_cases h1 : most < 0
  · rw [if_pos (Or.inl h1)]
    have hd : decide (most < 0) = true := decide_eq_true h1
    clear h1
    go_enter Try.func95, Try.ntmps95
    go_wp2_with (go_at_call 123; refine (numO_ _ _ _ _ HS.out HB.out).mono ?_; rintro e w1 ⟨rfl, hl⟩; rw [← HN.out]; have HL := Aside0.mk hl; obtain ⟨hc1, hf1⟩ := hl.1.fail; clear hl)
    go_ret
    exact ⟨rfl, HL.out.set⟩
  · have hd : decide (most < 0) = false := decide_eq_false h1
    have hw : IntKind.u64.wrap most = most := IntWalk.u64_in _ (by have := HM.out; omega)
    by_cases h2 : nv > most
    · rw [if_pos (Or.inr h2)]
      have hd2 : decide (most < nv) = true := decide_eq_true h2
      clear h1 h2
      go_enter Try.func95, Try.ntmps95
      go_wp2_with (go_at_call 123; refine (numO_ _ _ _ _ HS.out HB.out).mono ?_; rintro e w1 ⟨rfl, hl⟩; rw [← HN.out]; have HL := Aside0.mk hl; obtain ⟨hc1, hf1⟩ := hl.1.fail; clear hl)
      go_ret
      exact ⟨rfl, HL.out.set⟩
    · rw [if_neg (by omega)]
      have hd2 : decide (most < nv) = false := decide_eq_false h2
      have hv : wrap64 nv = nv := IntWalk.wrap64_in _ (by have := HM.out; have := HR.out; omega)
      clear h1 h2
      go_enter Try.func95, Try.ntmps95
      go_wp2_with (go_at_call 123; refine (numO_ _ _ _ _ HS.out HB.out).mono ?_; rintro e w1 ⟨rfl, hl⟩; rw [← HN.out]; have HL := Aside0.mk hl; clear hl)
      go_ret
      exact ⟨by rw [← HN.out, hv]; rfl, HL.out⟩

set_option maxHeartbeats 800000 in
theorem textO_ (w0 w : World) (g : Nat) (st : Option (List Int)) (most : Int) (h : RfO w0 w g st) (hB : Below w0.heap.size w0 w) (hm : most ≤ 9223372036854775807) :
    Calls Try.prog 94 #[.pointer (some ⟨g, 0, none⟩), .int .i64 most] w fun e w' => ∃ v, e = .returned v ∧ Ob w' w.heap.size v (textO st most).1 ∧ Left w0 w w' g (textO st most).2 := by
  have HS := Aside0.mk h
  have HB := Aside0.mk hB
  have HM := Aside0.mk hm
  clear hm h hB
  go_enter Try.func94, Try.ntmps94
  go_wp2_with (first
    | (go_at_call 95; refine (countO_ _ _ _ _ _ HS.out HB.out HM.out).mono ?_; rintro e w1 ⟨rfl, hl⟩; have HL := Aside0.mk hl; clear hl)
    | (go_at_call 122; refine (takeO_ _ _ _ _ _ HL.out.1 HL.out.2.1).mono ?_; rintro e w2 ⟨v, rfl, ho, hl⟩; have HO := Aside0.mk ho; have HT := Aside0.mk hl; clear hl ho))
  go_ret
  exact ⟨_, rfl, Kd.R_lower HO.out HL.out.2.2.1, HL.out.trans HT.out⟩
end Go.Proofs.Ytgdpabedlghiaaa.Rf
