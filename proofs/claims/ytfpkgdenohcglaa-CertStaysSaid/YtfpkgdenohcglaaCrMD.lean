/- Own and printed texts, laid together. -/
import Derived.Test.YtfpkgdenohcglaaCrMC
import Derived.WalkSpells
import Derived.Test.YtfpkgdenohcglaaCrMB
import Derived.Shelf.GgClosure.StringsIndexFunc
import Derived.Deep.LoopGhost
import Derived.Deep.RegionLaw
/- The walks of the document's reader. -/
namespace Go.Proofs.Ytfpkgdenohcglaa.Rf
open Go.Proofs.Ytfpkgdenohcglaa.Base Go.Proofs.Ytfpkgdenohcglaa.TlvPlain Go.Proofs.Ytfpkgdenohcglaa.Lo Go.RowKit Go.Proofs.YtfpkgdenohcglaaW.PrintWords Go.Proofs.YtfpkgdenohcglaaW.PrintLast Go.Proofs.YtfpkgdenohcglaaW.PrintMore

/-- A cut of bytes, and in which block it lies. -/
theorem cut2 {P : Program} (t e : TypeId) (kl : IntKind) {i : TypeInfo} (ht : P.underlying t = some (.slice e)) (hi : P.info? e = some i) (hsz : i.size = 1) (A : Option Addr) (n c m : Nat) (hm : m ≤ n) :
    ∃ A' : Option Addr, (∀ W : World, (Instr.slice t (.slice A n c) (some (.int kl (m : Int))) none none).run P W = .ok (.slice A' (n - m) (c - m)) W) ∧
      (∀ (w : World) (k : IntKind) (xs : List Int), n ≤ c → ReadsInt w k A n xs → ReadsInt w k A' (n - m) (xs.drop m)) ∧ (∀ ad', A' = some ad' → ∃ ad, A = some ad ∧ ad'.block = ad.block) := by
  refine ⟨if c = m then A else A.map (·.add m), fun W => ?_, fun w k xs hc h => h.drop_ m hm hc, fun ad' h => ?_⟩
  · have hel : P.elem t = e := by simp [Program.elem, ht]
    have hu : P.underlying t = some (.slice (P.elem t)) := by rw [hel]; exact ht
    rw [run_slice_l W t A n c hu kl (m : Int) (Int.natCast_nonneg _) (by omega), hel]
    simp [sizeOf, typeInfo, hi, hsz, sliced, Result.andThen]
  · split at h
    · exact ⟨ad', h, rfl⟩
    · obtain ⟨ad, h1, rfl⟩ := Option.map_eq_some_iff.1 h
      exact ⟨ad, h1, by unfold Addr.add; split <;> rfl⟩
/-- The document's reader at block g: the bytes that are left, and whether it failed. -/
def Rdr (w0 W : World) (g : Nat) (failed : Bool) (bs : List Int) : Prop :=
  w0.heap.size ≤ g ∧ ∃ A c, W.heap[g]? = some (.cells #[.slice A bs.length c, .bool failed] 102 (0, 0)) ∧ bs.length ≤ c ∧ Rb W A bs ∧ bs.length < 140737488355328 ∧ U8 bs ∧ ∀ ad, A = some ad → ad.block < g
theorem Rdr.lower {w0 w1 W : World} {g : Nat} {f : Bool} {bs : List Int} (h : Rdr w1 W g f bs) (hs : w0.heap.size ≤ w1.heap.size) : Rdr w0 W g f bs := ⟨Nat.le_trans hs h.1, h.2⟩
theorem cells_no_int {f : Bool} {A : Option Addr} {n c : Nat} (i : Nat) (v : Value) (h : (#[.slice A n c, Value.bool f] : Array Value)[i]? = some v) (k : Int) : v ≠ .int .u8 k := by
  match i, h with
  | 0, h => cases h; simp
  | 1, h => cases h; simp
theorem Rdr.below {w0 W W1 : World} {g : Nat} {f : Bool} {bs : List Int} (h : Rdr w0 W g f bs) (hb : Below W.heap.size W W1) : Rdr w0 W1 g f bs := by
  obtain ⟨h0, A, c, h1, h2, h3, h4⟩ := h
  exact ⟨h0, A, c, (hb.block g (blk_lt h1)).trans h1, h2, Kd.C_below h3 hb, h4⟩
/-- Where another block alone was written, in which no numbers lie. -/
theorem Rdr.keep {w0 W W1 : World} {g g' : Nat} {f : Bool} {bs : List Int} (h : Rdr w0 W g f bs) (hk : KeepBut W W1 g' none) (hne : g ≠ g') {T : Nat} {cs : Array Value} (hb : W.heap[g']? = some (.cells cs T (0, 0))) (hcs : ∀ i : Nat, ∀ v, cs[i]? = some v → ∀ n, v ≠ Value.int .u8 n) : Rdr w0 W1 g f bs := by
  obtain ⟨h0, A, c, h1, h2, h3, h4⟩ := h
  exact ⟨h0, A, c, hk.blk h1 hne (by simp), h2, reads_keep h3 hk (reads_ne hb hcs h3), h4⟩
theorem Rdr.grown {w0 W W1 : World} {g : Nat} {f : Bool} {bs : List Int} {row : Option Nat} (h : Rdr w0 W g f bs) (hg : W.grownBy W1 row) (hr : ∀ b, row = some b → g < b) : Rdr w0 W1 g f bs := by
  obtain ⟨h0, A, c, h1, h2, h3, h4⟩ := h
  have hne : some g ≠ row := fun e => Nat.lt_irrefl g (hr g e.symm)
  refine ⟨h0, A, c, blk_grown h1 hg hne, h2, ?_, h4⟩
  cases row with
  | none => exact reads_keep h3 (KeepBut.of_grown hg W.heap.size) (fun ad e _ => by have := h4.2.2 ad e; have := blk_lt h1; omega)
  | some q =>
    have hk : KeepBut W W1 q none := ⟨hg.size, fun i hi h1 _ => hg.block i hi (fun e => h1 (Option.some.inj e))⟩
    exact reads_keep h3 hk (fun ad e _ => by have := h4.2.2 ad e; have := hr q rfl; omega)
theorem Rdr.set {w0 W : World} {g : Nat} {f : Bool} {bs : List Int} (h : Rdr w0 W g f bs) (f' : Bool) : Rdr w0 (W.setCell ⟨g, 1, none⟩ (.bool f')) g f' bs := by
  obtain ⟨h0, A, c, h1, h2, h3, h4⟩ := h
  exact ⟨h0, A, c, by simpa using blk_set h1 1 (.bool f'), h2, reads_keep h3 (keep_set _ _ _ _) (reads_ne h1 cells_no_int h3), h4⟩
theorem Rdr.cut {w0 W : World} {g : Nat} {f : Bool} {bs cs : List Int} (h : Rdr w0 W g f bs) {A' : Option Addr} {c' : Nat} (hc : cs.length ≤ c') (hr : Rb W A' cs) (hl : cs.length ≤ bs.length) (hu : U8 cs) (hbl : ∀ ad, A' = some ad → ad.block < g) : Rdr w0 (W.setCell ⟨g, 0, none⟩ (.slice A' cs.length c')) g f cs := by
  obtain ⟨h0, A, c, h1, h2, h3, h4⟩ := h
  exact ⟨h0, A', c', by simpa using blk_set h1 0 (.slice A' cs.length c'), hc, reads_keep hr (keep_set _ _ _ _) (reads_ne h1 cells_no_int hr), Nat.lt_of_le_of_lt hl h4.1, hu, hbl⟩

/-- The reader's state: the bytes that are left, or that it failed. -/
def RfO (w0 W : World) (g : Nat) (st : Option (List Int)) : Prop :=
  match st with
  | some bs => Rdr w0 W g false bs
  | none => ∃ bs, Rdr w0 W g true bs
theorem RfO.any {w0 W : World} {g : Nat} {st : Option (List Int)} (h : RfO w0 W g st) : ∃ bs, Rdr w0 W g (!st.isSome) bs := by
  cases st with
  | some bs => exact ⟨bs, h⟩
  | none => exact h
theorem RfO.below {w0 W W1 : World} {g : Nat} {st : Option (List Int)} (h : RfO w0 W g st) (hb : Below W.heap.size W W1) : RfO w0 W1 g st := by
  cases st with
  | some bs => exact Rdr.below h hb
  | none => obtain ⟨bs, h⟩ := h; exact ⟨bs, h.below hb⟩
theorem RfO.keep {w0 W W1 : World} {g g' : Nat} {st : Option (List Int)} (h : RfO w0 W g st) (hk : KeepBut W W1 g' none) (hne : g ≠ g') {T : Nat} {cs : Array Value} (hb : W.heap[g']? = some (.cells cs T (0, 0))) (hcs : ∀ i : Nat, ∀ v, cs[i]? = some v → ∀ n, v ≠ Value.int .u8 n) : RfO w0 W1 g st := by
  cases st with
  | some bs => exact Rdr.keep h hk hne hb hcs
  | none => obtain ⟨bs, h⟩ := h; exact ⟨bs, h.keep hk hne hb hcs⟩
theorem RfO.grown {w0 W W1 : World} {g : Nat} {st : Option (List Int)} {row : Option Nat} (h : RfO w0 W g st) (hg : W.grownBy W1 row) (hr : ∀ b, row = some b → g < b) : RfO w0 W1 g st := by
  cases st with
  | some bs => exact Rdr.grown h hg hr
  | none => obtain ⟨bs, h⟩ := h; exact ⟨bs, h.grown hg hr⟩
theorem RfO.lower {w0 w1 W : World} {g : Nat} {st : Option (List Int)} (h : RfO w1 W g st) (hs : w0.heap.size ≤ w1.heap.size) : RfO w0 W g st := by
  cases st with
  | some bs => exact Rdr.lower h hs
  | none => obtain ⟨bs, h⟩ := h; exact ⟨bs, h.lower hs⟩
theorem RfO.blk {w0 W : World} {g : Nat} {st : Option (List Int)} (h : RfO w0 W g st) : w0.heap.size ≤ g ∧ g < W.heap.size ∧ ∃ cs, W.heap[g]? = some (.cells cs 102 (0, 0)) ∧ ∀ i : Nat, ∀ v, cs[i]? = some v → ∀ n, v ≠ Value.int .u8 n := by
  obtain ⟨bs, h0, A, c, h1, _⟩ := h.any
  exact ⟨h0, blk_lt h1, _, h1, cells_no_int⟩
theorem RfO.u8 {w0 W : World} {g : Nat} {bs : List Int} (h : RfO w0 W g (some bs)) : U8 bs ∧ bs.length < 140737488355328 := by
  obtain ⟨_, _, _, _, _, _, h1, h2⟩ := (show Rdr w0 W g false bs from h)
  exact ⟨h2.1, h1⟩
/-- What its field Fail reads as. -/
theorem RfO.fail {w0 W : World} {g : Nat} {st : Option (List Int)} (h : RfO w0 W g st) : W.cell? ⟨g, 1, none⟩ = some (.bool (!st.isSome)) ∧ W.frozen? ⟨g, 1, none⟩ = false := by
  obtain ⟨bs, _, A, c, h1, _⟩ := h.any
  exact ⟨(blk_cell h1 1).trans rfl, blk_frozen h1 1⟩
/-- What its field B reads as. -/
theorem RfO.bytes {w0 W : World} {g : Nat} {bs : List Int} (h : RfO w0 W g (some bs)) : ∃ A c, W.cell? ⟨g, 0, none⟩ = some (.slice A bs.length c) ∧ bs.length ≤ c ∧ Rb W A bs := by
  obtain ⟨_, A, c, h1, h2, h3, _⟩ := (show Rdr w0 W g false bs from h)
  exact ⟨A, c, (blk_cell h1 0).trans rfl, h2, h3⟩
theorem RfO.set {w0 W : World} {g : Nat} {st : Option (List Int)} (h : RfO w0 W g st) : RfO w0 (W.setCell ⟨g, 1, none⟩ (.bool true)) g none := by
  obtain ⟨bs, h⟩ := h.any
  exact ⟨bs, h.set true⟩
/-- What a call that is handed a reader leaves. -/
def Left (w0 w w' : World) (g : Nat) (st : Option (List Int)) : Prop := RfO w0 w' g st ∧ Below w0.heap.size w0 w' ∧ KeepBut w w' g none
theorem Left.trans {w0 w w1 w2 : World} {g : Nat} {s1 s2 : Option (List Int)} (h : Left w0 w w1 g s1) (k : Left w0 w1 w2 g s2) : Left w0 w w2 g s2 := ⟨k.1, k.2.1, h.2.2.trans k.2.2 (.inl rfl)⟩
theorem Left.set {w0 w w' : World} {g : Nat} {st : Option (List Int)} (h : Left w0 w w' g st) : Left w0 w (w'.setCell ⟨g, 1, none⟩ (.bool true)) g none := ⟨h.1.set, below_set h.2.1 h.1.blk.1, h.2.2.set_ 1 _⟩

set_option maxHeartbeats 1600000 in
set_option maxRecDepth 100000 in
theorem take_bad (w0 w : World) (g : Nat) (f : Bool) (bs : List Int) (n : Int) (h : Rdr w0 w g f bs) (hB : Below w0.heap.size w0 w) (hbad : ¬ (f = false ∧ 0 ≤ n ∧ n ≤ bs.length)) :
    Calls Try.prog 73 #[.pointer (some ⟨g, 0, none⟩), .int .i64 n] w fun e w' => ∃ v, e = .returned v ∧ Ob w' w.heap.size v [] ∧ Left w0 w w' g none := by
  have HB := Aside0.mk hB
  clear hB
  have hfin : Left w0 w (w.setCell ⟨g, 1, none⟩ (.bool true)) g none := ⟨⟨bs, h.set true⟩, below_set HB.out h.1, keep_set _ _ _ _⟩
  have HF := Aside0.mk hfin
  clear hfin
  obtain ⟨_, A, c, h1, _⟩ := h
  have hc0 : w.cell? ⟨g, 0, none⟩ = some (.slice A bs.length c) := (blk_cell h1 0).trans rfl
  have hc1 : w.cell? ⟨g, 1, none⟩ = some (.bool f) := (blk_cell h1 1).trans rfl
  have hf1 := blk_frozen h1 1
  clear h1
  cases f with
  | false =>
    by_cases hn : n < 0
    · have hd : decide (n < 0) = true := decide_eq_true hn
      clear hbad hn
      go_enter Try.func73, Try.ntmps73
      go_wp2
      go_ret
      exact ⟨_, rfl, Kd.R_nil _ _ _ _ _, HF.out⟩
    · have hd : decide (n < 0) = false := decide_eq_false hn
      have hg : decide ((bs.length : Int) < n) = true := decide_eq_true (by
        by_cases h2 : (bs.length : Int) < n
        · exact h2
        · exact absurd ⟨rfl, by omega, by omega⟩ hbad)
      clear hbad hn
      go_enter Try.func73, Try.ntmps73
      go_wp2
      go_ret
      exact ⟨_, rfl, Kd.R_nil _ _ _ _ _, HF.out⟩
  | true =>
    clear hbad
    go_enter Try.func73, Try.ntmps73
    go_wp2
    go_ret
    exact ⟨_, rfl, Kd.R_nil _ _ _ _ _, HF.out⟩

set_option maxHeartbeats 1600000 in
set_option maxRecDepth 100000 in
theorem take_good (w0 w : World) (g : Nat) (bs : List Int) (n : Nat) (h : Rdr w0 w g false bs) (hB : Below w0.heap.size w0 w) (hn : n ≤ bs.length) :
    Calls Try.prog 73 #[.pointer (some ⟨g, 0, none⟩), .int .i64 n] w fun e w' => ∃ v, e = .returned v ∧ Ob w' w.heap.size v (bs.take n) ∧ Left w0 w w' g (some (bs.drop n)) := by
  have HI := Aside0.mk h
  have HB := Aside0.mk hB
  clear hB
  obtain ⟨hg0, A, c, h1, h2, h3, h4⟩ := h
  have hnn : (0 : Int) ≤ (n : Int) := Int.natCast_nonneg _
  have hnc : (n : Int) ≤ (c : Int) := by omega
  have hd0 : decide ((n : Int) < 0) = false := decide_eq_false (by omega)
  have hd1 : decide ((bs.length : Int) < (n : Int)) = false := decide_eq_false (by omega)
  have hd2 : decide (bs.length < n) = false := decide_eq_false (by omega)
  have hc0 : w.cell? ⟨g, 0, none⟩ = some (.slice A bs.length c) := (blk_cell h1 0).trans rfl
  have hc1 : w.cell? ⟨g, 1, none⟩ = some (.bool false) := (blk_cell h1 1).trans rfl
  have hf0 := blk_frozen h1 0
  have HGL := Aside0.mk (blk_lt h1)
  have h3' := Kd.reads_of_C (d := (0 : Int)) h3
  have hlen : bs.length ≤ 9223372036854775807 := h3'.2.1
  obtain ⟨i0, hi, hz0, hz1, hz2⟩ := info_parts info_u8
  obtain ⟨A', hcut, hA', hbk⟩ := cut2 (P := Try.prog) 25 5 .i64 Try.underlying25 hi hz1 A bs.length c n hn
  have hrest : Rb w A' (bs.drop n) := by
    have := Kd.C_of_reads (d := (0 : Int)) (h1 := fun _ => rfl) (hA' w .u8 bs h2 h3')
    rwa [← List.length_drop] at this
  have hfirst : Rb w A (bs.take n) := by
    have h5 := Kd.C_of_reads (d := (0 : Int)) (h1 := fun _ => rfl) (ReadsInt.take_ h3' n hn)
    show Kd.C _ w A (bs.take n).length (bs.take n)
    rw [show (bs.take n).length = n from by rw [List.length_take]; omega]
    exact h5
  have HREST := Aside0.mk hrest
  have HFIRST := Aside0.mk hfirst
  have HU := Aside0.mk (h4.2.1.drop n)
  have HBK := Aside0.mk (show ∀ ad, A' = some ad → ad.block < g from fun ad' e => by obtain ⟨ad, e2, e3⟩ := hbk ad' e; rw [e3]; exact h4.2.2 ad e2)
  have HTL := Aside0.mk (show (bs.take n).length = n by rw [List.length_take]; omega)
  have HBL := Aside0.mk (show n < 140737488355328 by have := h4.1; omega)
  have HNC := Aside0.mk (show n ≤ c by omega)
  have HDL := Aside0.mk (show (bs.drop n).length ≤ c - n ∧ (bs.drop n).length ≤ bs.length by rw [List.length_drop]; omega)
  clear hrest hfirst h1 h3 h4 hA' hbk h3' hi hz0 hz1 hz2 hg0
  go_enter Try.func73, Try.ntmps73
  go_wp2_with (go_at_call 52; refine (copy_n A c n (bs.take n) _ HFIRST.out HTL.out HNC.out HBL.out).mono ?_; rintro e w1 ⟨v, rfl, ho, hb⟩; have HO := Aside0.mk ho; have HW := Aside0.mk hb; have hd0' := (hb.cell (p := ⟨g, 0, none⟩) HGL.out).trans hc0; have hf0' := (hb.frozen (p := ⟨g, 0, none⟩) HGL.out).trans hf0; clear ho hb hc0 hc1 hf0)
  go_ret
  have hR := ((HI.out.below HW.out).cut HDL.out.1 (Kd.C_below HREST.out HW.out) HDL.out.2 HU.out HBK.out)
  rw [List.length_drop] at hR
  refine ⟨_, rfl, Kd.R_mono (Kd.R_far (Kd.R_bound HO.out) (p := ⟨g, 0, none⟩) (fun k hk e => ?_) _) (fun _ _ => trivial), hR, below_set (HB.out.trans (HW.out.mono HB.out.size)) HI.out.1, (KeepBut.of_below HW.out g none).set_ 0 _⟩
  have h1 := hk.2.1
  have h2 := HGL.out
  dsimp only at e
  omega

theorem takeO_ (w0 w : World) (g : Nat) (st : Option (List Int)) (n : Int) (h : RfO w0 w g st) (hB : Below w0.heap.size w0 w) :
    Calls Try.prog 73 #[.pointer (some ⟨g, 0, none⟩), .int .i64 n] w fun e w' => ∃ v, e = .returned v ∧ Ob w' w.heap.size v (takeO st n).1 ∧ Left w0 w w' g (takeO st n).2 := by
  cases st with
  | some bs =>
    by_cases hn : 0 ≤ n ∧ n ≤ bs.length
    · obtain ⟨m, rfl⟩ := Int.eq_ofNat_of_zero_le hn.1
      have e : takeO (some bs) (m : Int) = (bs.take m, some (bs.drop m)) := by simp only [takeO]; rw [if_pos hn]; rfl
      rw [e]
      exact take_good w0 w g bs m h hB (by omega)
    · have e : takeO (some bs) n = ([], none) := by simp only [takeO]; rw [if_neg hn]
      rw [e]
      exact take_bad w0 w g false bs n h hB (fun h => hn h.2)
  | none =>
    obtain ⟨bs, h⟩ := h
    exact take_bad w0 w g true bs n h hB (fun h => by cases h.1)
theorem take1_cons (x : Int) (r : List Int) : takeO (some (x :: r)) 1 = ([x], some r) := by
  simp only [takeO]
  rw [if_pos (by rw [List.length_cons]; omega)]
  rfl

set_option maxHeartbeats 1600000 in
set_option maxRecDepth 100000 in
theorem num_none (w0 w : World) (g : Nat) (st : Option (List Int)) (h : RfO w0 w g st) (hB : Below w0.heap.size w0 w) (hst : takeO st 1 = ([], none)) :
    Calls Try.prog 81 #[.pointer (some ⟨g, 0, none⟩)] w fun e w' => e = .returned (.int .u64 0) ∧ Left w0 w w' g none := by
  have HS := Aside0.mk h
  have HB := Aside0.mk hB
  have E1 := Aside0.mk hst
  clear h hB hst
  go_enter Try.func81, Try.ntmps81
  go_wp2_with (first
    | (go_at_call 73; refine (takeO_ _ _ _ _ _ HS.out HB.out).mono ?_; rintro e w1 ⟨v, rfl, ho, hl⟩; rw [E1.out] at ho hl; have HL := Aside0.mk hl; have hc1 : w1.cell? ⟨g, 1, none⟩ = some (.bool true) := hl.1.fail.1; have hf1 := hl.1.fail.2; clear ho hl))
  go_ret
  exact ⟨rfl, HL.out.set⟩

set_option maxHeartbeats 1600000 in
set_option maxRecDepth 100000 in
theorem num_wide (w0 w : World) (g : Nat) (x : Int) (r : List Int) (h : RfO w0 w g (some (x :: r))) (hB : Below w0.heap.size w0 w) (hx : 8 < x) :
    Calls Try.prog 81 #[.pointer (some ⟨g, 0, none⟩)] w fun e w' => e = .returned (.int .u64 0) ∧ Left w0 w w' g none := by
  have HS := Aside0.mk h
  have HB := Aside0.mk hB
  have E1 := Aside0.mk (take1_cons x r)
  have hd : decide (8 < x) = true := decide_eq_true hx
  clear h hB hx
  go_enter Try.func81, Try.ntmps81
  go_wp2_with (first
    | (go_at_call 73; refine (takeO_ _ _ _ _ _ HS.out HB.out).mono ?_; rintro e w1 ⟨v, rfl, ho, hl⟩; rw [E1.out] at ho hl; have HL := Aside0.mk hl; have hc1 : w1.cell? ⟨g, 1, none⟩ = some (.bool false) := hl.1.fail.1; have hf1 := hl.1.fail.2; obtain ⟨A, c, rfl, hlc, hrd⟩ := Ob.reads ho; obtain ⟨ad, rfl, hc0⟩ := Rb.at0 hrd; clear ho hl hrd hlc))
  go_ret
  exact ⟨rfl, HL.out.set⟩

set_option maxHeartbeats 1600000 in
set_option maxRecDepth 100000 in
theorem num_short (w0 w : World) (g : Nat) (x : Int) (r : List Int) (h : RfO w0 w g (some (x :: r))) (hB : Below w0.heap.size w0 w) (hx0 : 0 ≤ x) (hx : x ≤ 8) (hl : (r.length : Int) < x) :
    Calls Try.prog 81 #[.pointer (some ⟨g, 0, none⟩)] w fun e w' => e = .returned (.int .u64 0) ∧ Left w0 w w' g none := by
  have HS := Aside0.mk h
  have HB := Aside0.mk hB
  have E1 := Aside0.mk (take1_cons x r)
  have E2 := Aside0.mk (show takeO (some r) x = ([], none) by simp only [takeO]; rw [if_neg (by omega)])
  have hd : decide (8 < x) = false := decide_eq_false (by omega)
  clear h hB hl
  go_enter Try.func81, Try.ntmps81
  go_wp2_with (fail)
  refine (takeO_ _ _ _ _ _ HS.out HB.out).mono ?_; rintro e w1 ⟨v, rfl, ho, hl⟩; rw [E1.out] at ho hl; have HL := Aside0.mk hl; have hc1 : w1.cell? ⟨g, 1, none⟩ = some (.bool false) := hl.1.fail.1; obtain ⟨A, c, rfl, hlc, hrd⟩ := Ob.reads ho; obtain ⟨ad, rfl, hc0⟩ := Rb.at0 hrd; clear ho hl hrd hlc
  go_wp2_with (fail)
  refine (takeO_ _ _ _ _ _ HL.out.1 HL.out.2.1).mono ?_; rintro e w2 ⟨v, rfl, ho, hl⟩; rw [E2.out] at ho hl; have HL2 := Aside0.mk (HL.out.trans hl); have hc2 : w2.cell? ⟨g, 1, none⟩ = some (.bool true) := hl.1.fail.1; have hf2 := hl.1.fail.2; clear HL ho hl hc1 hc0
  go_wp2
  go_ret
  exact ⟨rfl, HL2.out.set⟩

set_option maxHeartbeats 1600000 in
set_option maxRecDepth 100000 in
theorem num_zero (w0 w : World) (g : Nat) (x y : Int) (r : List Int) (h : RfO w0 w g (some (x :: y :: r))) (hB : Below w0.heap.size w0 w) (hx0 : 0 < x) (hx : x ≤ 8) (hl : x ≤ (r.length : Int) + 1) (hy : y = 0) :
    Calls Try.prog 81 #[.pointer (some ⟨g, 0, none⟩)] w fun e w' => e = .returned (.int .u64 0) ∧ Left w0 w w' g none := by
  subst hy
  have HS := Aside0.mk h
  have HB := Aside0.mk hB
  have E1 := Aside0.mk (take1_cons x (0 :: r))
  have E2 := Aside0.mk (show takeO (some (0 :: r)) x = (0 :: r.take (x.toNat - 1), some ((0 :: r).drop x.toNat)) by
    simp only [takeO]
    rw [if_pos (by rw [List.length_cons]; omega)]
    obtain ⟨m, hm⟩ : ∃ m, x.toNat = m + 1 := ⟨x.toNat - 1, by omega⟩
    rw [hm]; rfl)
  have hd : decide (8 < x) = false := decide_eq_false (by omega)
  clear h hB hl
  go_enter Try.func81, Try.ntmps81
  go_wp2_with (fail)
  refine (takeO_ _ _ _ _ _ HS.out HB.out).mono ?_; rintro e w1 ⟨v, rfl, ho, hl⟩; rw [E1.out] at ho hl; have HL := Aside0.mk hl; have hc1 : w1.cell? ⟨g, 1, none⟩ = some (.bool false) := hl.1.fail.1; obtain ⟨A, c, rfl, hlc, hrd⟩ := Ob.reads ho; obtain ⟨ad, rfl, hc0⟩ := Rb.at0 hrd; clear ho hl hrd hlc
  go_wp2_with (fail)
  refine (takeO_ _ _ _ _ _ HL.out.1 HL.out.2.1).mono ?_; rintro e w2 ⟨v, rfl, ho, hl⟩; rw [E2.out] at ho hl; have HL2 := Aside0.mk (HL.out.trans hl); have hc3 : w2.cell? ⟨g, 1, none⟩ = some (.bool false) := hl.1.fail.1; have hf3 := hl.1.fail.2; obtain ⟨A2, c2, rfl, hlc, hrd⟩ := Ob.reads ho; obtain ⟨ad2, rfl, hc2⟩ := Rb.at0 hrd; clear HL ho hl hlc hrd hc1 hc0
  have hl0 : decide (0 < (0 :: r.take (x.toNat - 1)).length) = true := decide_eq_true (by simp)
  generalize (0 :: r.take (x.toNat - 1)).length = nn at hl0 ⊢
  have hl2 : 0 < nn := of_decide_eq_true hl0
  have hl1 : decide (0 < (nn : Int)) = true := decide_eq_true (by omega)
  go_wp2
  go_ret
  exact ⟨rfl, HL2.out.set⟩

set_option maxHeartbeats 3200000 in
set_option maxRecDepth 100000 in
theorem num_good (w0 w : World) (g : Nat) (x : Int) (r : List Int) (h : RfO w0 w g (some (x :: r))) (hB : Below w0.heap.size w0 w) (hx0 : 0 ≤ x) (hx : x ≤ 8) (hl : x ≤ (r.length : Int)) (hy : ¬ (0 < x ∧ r.getD 0 0 = 0)) :
    Calls Try.prog 81 #[.pointer (some ⟨g, 0, none⟩)] w fun e w' => e = .returned (.int .u64 (valueB (r.take x.toNat))) ∧ Left w0 w w' g (some (r.drop x.toNat)) := by
  have HS := Aside0.mk h
  have HB := Aside0.mk hB
  have HU := Aside0.mk ((h.u8.1.tail).take x.toNat)
  have E1 := Aside0.mk (take1_cons x r)
  have E2 := Aside0.mk (show takeO (some r) x = (r.take x.toNat, some (r.drop x.toNat)) by simp only [takeO]; rw [if_pos ⟨hx0, hl⟩])
  obtain ⟨l, hL⟩ : ∃ l, l = r.take x.toNat := ⟨_, rfl⟩
  have hlen : l.length = x.toNat := by rw [hL, List.length_take]; omega
  have hb : (decide (0 < l.length) && (rd l 0 == 0)) = false := by
    rw [Bool.and_eq_false_iff]
    by_cases h0 : 0 < x
    · right
      rw [beq_eq_false_iff_ne]
      intro e
      apply hy
      refine ⟨h0, ?_⟩
      rw [hL] at e
      obtain ⟨m, hm⟩ : ∃ m, x.toNat = m + 1 := ⟨x.toNat - 1, by omega⟩
      cases r with
      | nil => simp at hl; omega
      | cons y r => simpa [rd, hm] using e
    · left
      exact decide_eq_false (by omega)
  rw [← hL] at HU E2 ⊢
  have H8 := Aside0.mk (show l.length ≤ 8 by omega)
  have hd : decide (8 < x) = false := decide_eq_false (by omega)
  clear h hB hl hy hL hlen
  go_enter Try.func81, Try.ntmps81
  go_wp2_with (fail)
  refine (takeO_ _ _ _ _ _ HS.out HB.out).mono ?_; rintro e w1 ⟨v, rfl, ho, hl⟩; rw [E1.out] at ho hl; have HL := Aside0.mk hl; have hc1 : w1.cell? ⟨g, 1, none⟩ = some (.bool false) := hl.1.fail.1; obtain ⟨A, c, rfl, hlc, hrd⟩ := Ob.reads ho; obtain ⟨ad, rfl, hc0⟩ := Rb.at0 hrd; clear ho hl hrd hlc
  go_wp2_with (fail)
  refine (takeO_ _ _ _ _ _ HL.out.1 HL.out.2.1).mono ?_; rintro e w2 ⟨v, rfl, ho, hl⟩; rw [E2.out] at ho hl; have HL2 := Aside0.mk (HL.out.trans hl); have hc3 : w2.cell? ⟨g, 1, none⟩ = some (.bool false) := hl.1.fail.1; obtain ⟨A2, c2, rfl, hlc, hrd⟩ := Ob.reads ho; have HRD := Aside0.mk hrd; have HLC := Aside0.mk hlc; clear HL ho hl hlc hrd hx0 hc1 hc0
  by_cases hz : 0 < l.length
  · have hzi : (0 : Int) < (l.length : Int) := by omega
    obtain ⟨ad2, hA2, hc2⟩ := Kd.at_int HRD.out 0 (Int.le_refl _) hzi
    subst hA2
    have hz0 : decide (0 < l.length) = true := decide_eq_true hz
    have hz1 : decide (0 < (l.length : Int)) = true := decide_eq_true (by omega)
    have hb1 : (rd l 0 == 0) = false := by rw [hz0, Bool.true_and] at hb; exact hb
    have hc5 : w2.cell? ad2 = some (.int .u8 (rd l 0)) := by simpa [Addr.add] using hc2
    clear hb hc2
    go_wp2_with (go_at_call 100; refine (value_c _ c2 l _ HRD.out HLC.out HU.out H8.out).mono ?_; rintro e w' ⟨rfl, ⟨m1, rfl⟩⟩)
    go_ret
    exact ⟨rfl, HL2.out.1.below (Drawn0.mk ⟨m1, rfl⟩).below, pw_below_drewN HL2.out.2.1 m1, keep_drewN HL2.out.2.2 m1⟩
  · have hz0 : decide (0 < l.length) = false := decide_eq_false hz
    have hl0 : l = [] := List.length_eq_zero_iff.1 (by omega)
    subst hl0
    clear hb hz hz0
    have hf0 : decide ((0 : Int) < 0) = false := rfl
    go_wp2_with (go_at_call 100; refine (value_c A2 c2 [] _ HRD.out HLC.out HU.out H8.out).mono ?_; rintro e w' ⟨rfl, ⟨m1, rfl⟩⟩)
    go_ret
    exact ⟨rfl, HL2.out.1.below (Drawn0.mk ⟨m1, rfl⟩).below, pw_below_drewN HL2.out.2.1 m1, keep_drewN HL2.out.2.2 m1⟩

theorem numO_ (w0 w : World) (g : Nat) (st : Option (List Int)) (h : RfO w0 w g st) (hB : Below w0.heap.size w0 w) :
    Calls Try.prog 81 #[.pointer (some ⟨g, 0, none⟩)] w fun e w' => e = .returned (.int .u64 (numO st).1) ∧ Left w0 w w' g (numO st).2 := by
  match st, h with
  | none, h => exact num_none w0 w g none h hB rfl
  | some [], h => exact num_none w0 w g (some []) h hB rfl
  | some (x :: r), h =>
    have hx0 := h.u8.1.head.1
    simp only [numO]
    by_cases h1 : x > 8
    · rw [if_pos h1]; exact num_wide w0 w g x r h hB h1
    · rw [if_neg h1]
      by_cases h2 : (r.length : Int) < x
      · rw [if_pos h2]; exact num_short w0 w g x r h hB hx0 (by omega) h2
      · rw [if_neg h2]
        by_cases h3 : 0 < x ∧ r.getD 0 0 = 0
        · rw [if_pos h3]
          cases r with
          | nil => simp at h2; omega
          | cons y r => exact num_zero w0 w g x y r h hB h3.1 (by omega) (by simp at h2; omega) (by simpa using h3.2)
        · rw [if_neg h3]; exact num_good w0 w g x r h hB hx0 (by omega) (by omega) h3

set_option maxHeartbeats 1600000 in
set_option maxRecDepth 100000 in
theorem countO_ (w0 w : World) (g : Nat) (st : Option (List Int)) (most : Int) (h : RfO w0 w g st) (hB : Below w0.heap.size w0 w) (hm : most ≤ 9223372036854775807) :
    Calls Try.prog 74 #[.pointer (some ⟨g, 0, none⟩), .int .i64 most] w fun e w' => e = .returned (.int .i64 (countO st most).1) ∧ Left w0 w w' g (countO st most).2 := by
  have HS := Aside0.mk h
  have HB := Aside0.mk hB
  have hr := numO_range (st := st) (fun bs e => by subst e; exact h.u8.1)
  unfold countO
  obtain ⟨nv, hnv⟩ : ∃ nv, nv = (numO st).1 := ⟨_, rfl⟩
  rw [← hnv] at hr ⊢
  have HN := Aside0.mk hnv
  have HR := Aside0.mk hr
  have HM := Aside0.mk hm
  clear hm
  clear hr hnv h hB
  by_cases h1 : most < 0
  · rw [if_pos (Or.inl h1)]
    have hd : decide (most < 0) = true := decide_eq_true h1
    clear h1
    go_enter Try.func74, Try.ntmps74
    go_wp2_with (go_at_call 81; refine (numO_ _ _ _ _ HS.out HB.out).mono ?_; rintro e w1 ⟨rfl, hl⟩; rw [← HN.out]; have HL := Aside0.mk hl; obtain ⟨hc1, hf1⟩ := hl.1.fail; clear hl)
    go_ret
    exact ⟨rfl, HL.out.set⟩
  · have hd : decide (most < 0) = false := decide_eq_false h1
    have hw : IntKind.u64.wrap most = most := IntWalk.u64_in _ (by have := HM.out; omega)
    by_cases h2 : nv > most
    · rw [if_pos (Or.inr h2)]
      have hd2 : decide (most < nv) = true := decide_eq_true h2
      clear h1 h2
      go_enter Try.func74, Try.ntmps74
      go_wp2_with (go_at_call 81; refine (numO_ _ _ _ _ HS.out HB.out).mono ?_; rintro e w1 ⟨rfl, hl⟩; rw [← HN.out]; have HL := Aside0.mk hl; obtain ⟨hc1, hf1⟩ := hl.1.fail; clear hl)
      go_ret
      exact ⟨rfl, HL.out.set⟩
    · rw [if_neg (by omega)]
      have hd2 : decide (most < nv) = false := decide_eq_false h2
      have hv : wrap64 nv = nv := IntWalk.wrap64_in _ (by have := HM.out; have := HR.out; omega)
      clear h1 h2
      go_enter Try.func74, Try.ntmps74
      go_wp2_with (go_at_call 81; refine (numO_ _ _ _ _ HS.out HB.out).mono ?_; rintro e w1 ⟨rfl, hl⟩; rw [← HN.out]; have HL := Aside0.mk hl; clear hl)
      go_ret
      exact ⟨by rw [← HN.out, hv]; rfl, HL.out⟩

set_option maxHeartbeats 800000 in
theorem textO_ (w0 w : World) (g : Nat) (st : Option (List Int)) (most : Int) (h : RfO w0 w g st) (hB : Below w0.heap.size w0 w) (hm : most ≤ 9223372036854775807) :
    Calls Try.prog 75 #[.pointer (some ⟨g, 0, none⟩), .int .i64 most] w fun e w' => ∃ v, e = .returned v ∧ Ob w' w.heap.size v (textO st most).1 ∧ Left w0 w w' g (textO st most).2 := by
  have HS := Aside0.mk h
  have HB := Aside0.mk hB
  have HM := Aside0.mk hm
  clear hm h hB
  go_enter Try.func75, Try.ntmps75
  go_wp2_with (first
    | (go_at_call 74; refine (countO_ _ _ _ _ _ HS.out HB.out HM.out).mono ?_; rintro e w1 ⟨rfl, hl⟩; have HL := Aside0.mk hl; clear hl)
    | (go_at_call 73; refine (takeO_ _ _ _ _ _ HL.out.1 HL.out.2.1).mono ?_; rintro e w2 ⟨v, rfl, ho, hl⟩; have HO := Aside0.mk ho; have HT := Aside0.mk hl; clear hl ho))
  go_ret
  exact ⟨_, rfl, Kd.R_lower HO.out HL.out.2.2.1, HL.out.trans HT.out⟩
end Go.Proofs.Ytfpkgdenohcglaa.Rf
/- The document's sum walked (printed by gen_chnrsum.py). -/
namespace Go.Proofs.Ytfpkgdenohcglaa.Chn
set_option linter.unusedVariables false
set_option linter.unusedSimpArgs false
open Go.RowKit Go.Proofs.Ytfpkgdenohcglaa.Lo Go.Proofs.Ytfpkgdenohcglaa.RdPlain Go.Proofs.Ytfpkgdenohcglaa.Base Go.Proofs.Ytfpkgdenohcglaa.TlvPlain Go.Proofs.Ytfpkgdenohcglaa.ShaPlain Go.Proofs.Ytfpkgdenohcglaa.Sha Go.Proofs.Ytfpkgdenohcglaa.Com Go.Proofs.Ytfpkgdenohcglaa.Aid Go.Proofs.YtfpkgdenohcglaaW.PrintWords Go.Proofs.YtfpkgdenohcglaaW.PrintLast Go.Proofs.YtfpkgdenohcglaaW.PrintMore
open Rf (RfO takeO_ numO_ textO_)
attribute [local irreducible] shaB
theorem rleft_below {w0 w W W1 : World} {g : Nat} {s : Option (List Int)} (h : Rf.Left w0 w W g s) (hb : Below W.heap.size W W1) : Rf.Left w0 w W1 g s := ⟨h.1.below hb, below_step h.2.1 hb, h.2.2.trans (KeepBut.of_below hb g none) (.inl rfl)⟩
theorem rleft_grown {w0 w W W1 : World} {g : Nat} {s : Option (List Int)} {row : Option Nat} (h : Rf.Left w0 w W g s) (hb : Below w.heap.size W W1) (hg : W.grownBy W1 row) (hr : ∀ b, row = some b → g < b ∧ w0.heap.size ≤ b) (h0 : w0.heap.size ≤ w.heap.size) : Rf.Left w0 w W1 g s :=
  ⟨h.1.grown hg (fun b e => (hr b e).1), h.2.1.trans (hb.mono h0), Nat.le_trans h.2.2.1 hb.size, fun i hi h1 h2 => (hb.block i hi).trans (h.2.2.2 i hi h1 h2)⟩
def mixT (X : List Int) (k : Nat) : List Int := X.take k ++ Z.drop k
structure RsI (w0 w : World) (g : Nat) (s1 : Option (List Int)) (v : Value) (X : List Int) (k : Nat) (W : World) : Prop where
  l : Rf.Left w0 w W g s1
  z : W.heap[w.heap.size]? = some (.cells Z32 23 (0, 0))
  d : W.heap[w.heap.size + 1]? = some (.cells (nums .u8 (mixT X k)).toArray 23 (0, 0))
  r : Kd.R (Kd.int .u8) 5 W w.heap.size (fun k => k ≠ w.heap.size + 1) v X
end Go.Proofs.Ytfpkgdenohcglaa.Chn
/- The document's Get walked (printed by gen_chnrget.py). -/
namespace Go.Proofs.Ytfpkgdenohcglaa.Chn
set_option linter.unusedVariables false
set_option linter.unusedSimpArgs false
open Go.RowKit Go.Proofs.Ytfpkgdenohcglaa.Lo Go.Proofs.Ytfpkgdenohcglaa.RdPlain Go.Proofs.Ytfpkgdenohcglaa.Base Go.Proofs.Ytfpkgdenohcglaa.TlvPlain Go.Proofs.Ytfpkgdenohcglaa.ShaPlain Go.Proofs.Ytfpkgdenohcglaa.Sha Go.Proofs.Ytfpkgdenohcglaa.Com Go.Proofs.Ytfpkgdenohcglaa.Aid Go.Proofs.YtfpkgdenohcglaaW.PrintWords Go.Proofs.YtfpkgdenohcglaaW.PrintLast Go.Proofs.YtfpkgdenohcglaaW.PrintMore
open Rf (RfO takeO_ numO_ textO_)
attribute [local irreducible] shaB
theorem rrb_step {w0 W W' : World} {g : Nat} {s : Option (List Int)} {A : Option Addr} {xs : List Int} (h : Rb W A xs) (hs : RfO w0 W g s) (hk : KeepBut W W' g none) : Rb W' A xs := by
  obtain ⟨_, _, cs, h1, h2⟩ := hs.blk
  exact reads_keep h hk (reads_ne h1 h2 h)
/-- What the loop of the document's Get keeps. -/
structure RgetI (w : World) (g : Nat) (b : List Int) (n : Nat) (bs : List Int) (l : List Ent) (v : Value) (W : World) : Prop where
  rd : RfO w W g (some bs)
  bl : Below w.heap.size w W
  row : Rg W (g + 1) v l
  u : Lu' l
  p : ∀ x ∈ l, (payE x).length ≤ 100
  len : l.length ≤ 120
  fu : bs.length ≤ n
  eq : getN n bs l = getC b
/-- A round more. -/
theorem RgetI.next {w : World} {g : Nat} {b : List Int} {n : Nat} {bs r : List Int} {l : List Ent} {x : Ent} {v v' : Value} {W W' : World} (H : RgetI w g b (n + 1) bs l v W) (h32 : 32 < bs.length) (hr : readE (some bs) (l.length : Int) (headT l) = some (x, r)) (h120 : ¬ 120 ≤ l.length)
    (hrd : RfO w W' g (some r)) (hbl : Below w.heap.size w W') (hrow : Rg W' (g + 1) v' (l ++ [x])) (hx : Eu x) (hp : (payE x).length ≤ 100) : RgetI w g b n r (l ++ [x]) v' W' := by
  refine ⟨hrd, hbl, hrow, ?_, ?_, by rw [List.length_append, List.length_singleton]; omega, ?_, ?_⟩
  · intro y hy
    rcases List.mem_append.1 hy with hy | hy
    · exact H.u y hy
    · rw [List.mem_singleton.1 hy]; exact hx
  · intro y hy
    rcases List.mem_append.1 hy with hy | hy
    · exact H.p y hy
    · rw [List.mem_singleton.1 hy]; exact hp
  · have h1 := rd_len (read_some hr).2.2
    have h2 := H.fu
    omega
  · rw [← getN_next h32 hr h120]; exact H.eq
end Go.Proofs.Ytfpkgdenohcglaa.Chn
/- inode.Name: which texts may be names. -/
namespace Go.Proofs.Ytfpkgdenohcglaa.Name
set_option linter.unusedSimpArgs false
open Go.RowKit Go.Lib Go.Proofs.Ytfpkgdenohcglaa.Base Go.Proofs.YtfpkgdenohcglaaW.PrintWords Go.Proofs.YtfpkgdenohcglaaW.PrintLast Go.Proofs.YtfpkgdenohcglaaW.PrintMore

/-- Which letters may stand in a name. -/
def letB (r : Nat) : Bool := (decide (97 ≤ r) && decide (r ≤ 122)) || (decide (48 ≤ r) && decide (r ≤ 57)) || decide (r = 46) || decide (r = 45) || decide (r = 95)
set_option maxHeartbeats 1000000 in
theorem letter_c (r : Nat) (w : World) : Calls Try.prog 106 #[.int .i32 (r : Int)] w fun e w' => e = .returned (.bool (letB r)) ∧ ∃ q, w' = w.drewN q := by
  go_enter Try.func106, Try.ntmps106
  go_wp2
  all_goals
    go_ret
    refine ⟨congrArg (fun b => Ending.returned (Value.bool b)) ?_, 0, rfl⟩
    rw [Bool.eq_iff_iff]
    simp only [letB, Bool.or_eq_true, Bool.and_eq_true, decide_eq_true_eq, beq_iff_eq]
    first | omega | (simp; omega)
theorem pred (w : World) : PredAt Try.prog 105 #[] encR (fun r => !letB r) w := fun W r _ => by
  unfold FnGives
  have hL := letter_c r
  obtain ⟨b, hb⟩ : ∃ b, letB r = b := ⟨_, rfl⟩
  dsimp only
  rw [hb] at hL ⊢
  clear hb
  go_enter Try.func105, Try.ntmps105
  go_wp2_with (go_at_call 106; refine (hL _).mono ?_; rintro e w' ⟨rfl, q, rfl⟩)
  go_ret
  exact ⟨rfl, _, rfl⟩

set_option maxHeartbeats 2000000 in
set_option maxRecDepth 1000000 in
theorem index_c (s : ByteArray) (w : World) :
    Calls Try.prog 113 #[.string s, .func (.func 105) #[] #[], .bool true] w fun e w' => e = .returned (.int .i64 (Lib.idxFunc (fun r => !letB r) true s)) ∧ Below w.heap.size w w' := by
  have hp := pred w
  obtain ⟨p, hpp⟩ : ∃ p : Nat → Bool, (fun r => !letB r) = p := ⟨_, rfl⟩
  rw [hpp] at hp ⊢
  clear hpp
  go_enter Try.func113, Try.ntmps113
  go_wp2
  go_loopg [] s.size (fun gf wx => ∃ pos : Nat, wx.heap[w.heap.size]? = some (.stringIter s pos) ∧ Below w.heap.size w wx ∧ Lib.idxFuncFrom p true s gf pos = Lib.idxFunc p true s ∧ s.size ≤ pos + gf)
  case atStart => exact ⟨0, World.iter_heap w s 0, (Below.refl _ w).alloc (Nat.le_refl _) _, rfl, by omega⟩
  case round =>
    obtain ⟨pos, hit, hbw, hleft, hfu⟩ := hrel
    by_cases hps : pos < s.size
    · obtain ⟨g', rfl⟩ : ∃ g', gk = g' + 1 := ⟨gk - 1, by omega⟩
      have hnx : ∀ ty, (Instr.next (.pointer (some ⟨w.heap.size, 0, none⟩)) true ty).run Try.prog wr = _ := fun ty => Lib.run_next_any_at wr w.heap.size s pos ty hit hps
      have hwd := Lib.width_pos s pos
      obtain ⟨R, hR⟩ : ∃ R, (Utf8.decode s pos).1 = R := ⟨_, rfl⟩
      obtain ⟨K, hK⟩ : ∃ K, (Utf8.decode s pos).2 = K := ⟨_, rfl⟩
      simp only [Lib.idxFuncFrom, hps, if_true, hR, hK] at hleft
      rw [hR, hK] at hnx
      rw [hK] at hwd
      have hit2 := Lib.iterAt_heap wr w.heap.size s pos (pos + K) hit
      have hbw2 := Lib.below_iterAt hbw (k := w.heap.size) (Nat.le_refl _) s (pos + K)
      obtain ⟨W, hWd⟩ : ∃ W, wr.iterAt w.heap.size s (pos + K) = W := ⟨_, rfl⟩
      rw [hWd] at hnx hit2 hbw2
      have cS : Calls Try.prog 105 (#[.int .i32 (R : Int)] ++ #[]) W _ := hp W R hbw2
      simp only [List.append_toArray, List.cons_append, List.nil_append, Array.append_empty] at cS
      clear hp
      cases hsp : p R <;> rw [hsp] at cS <;> simp only [hsp, if_true, Bool.false_eq_true, Bool.true_eq_false, if_false] at hleft
      · go_wp2_with (go_at_call 105; refine cS.mono ?_; rintro e W' ⟨rfl, q, rfl⟩)
        go_roundg g'
        case measure => omega
        case rel => exact ⟨pos + K, hit2, below_drewN' hbw2 q, hleft, by omega⟩
      · go_wp2_with (go_at_call 105; refine cS.mono ?_; rintro e W' ⟨rfl, q, rfl⟩)
        go_ret
        exact ⟨by rw [← hleft] <;> rfl, below_drewN' hbw2 q⟩
    · have hnx : ∀ ty, (Instr.next (.pointer (some ⟨w.heap.size, 0, none⟩)) true ty).run Try.prog wr = _ := fun ty => Lib.run_next_end_at wr w.heap.size s pos ty hit hps
      rw [Lib.idxFuncFrom_end p true s gk pos hps] at hleft
      go_wp2
      go_ret
      exact ⟨by rw [← hleft] <;> rfl, hbw⟩
set_option maxHeartbeats 1000000 in
theorem Index_c (s : ByteArray) (w : World) :
    Calls Try.prog 104 #[.string s, .func (.func 105) #[] #[]] w fun e w' => e = .returned (.int .i64 (Lib.idxFunc (fun r => !letB r) true s)) ∧ Below w.heap.size w w' := by
  have cI := index_c s w
  go_enter Try.func104, Try.ntmps104
  go_wp2_with (go_at_call 113; refine cI.mono ?_; rintro e w' ⟨rfl, hb⟩)
  go_ret
  exact ⟨rfl, hb⟩
def nameB (s : ByteArray) : Bool := decide (Lib.idxFunc (fun r => !letB r) true s < 0) && (decide (1 ≤ s.size) && decide (s.size ≤ 16))
set_option maxHeartbeats 1000000 in
theorem name_c (s : ByteArray) (w : World) :
    Calls Try.prog 95 #[.string s] w fun e w' => e = .returned (.bool (nameB s)) ∧ Below w.heap.size w w' := by
  have cI := Index_c s w
  unfold nameB
  obtain ⟨i, hi⟩ : ∃ i, Lib.idxFunc (fun r => !letB r) true s = i := ⟨_, rfl⟩
  rw [hi] at cI ⊢
  clear hi
  obtain ⟨b1, e1⟩ : ∃ b, decide (i < 0) = b := ⟨_, rfl⟩
  obtain ⟨b2, e2⟩ : ∃ b, decide (1 ≤ s.size) = b := ⟨_, rfl⟩
  obtain ⟨b3, e3⟩ : ∃ b, decide (s.size ≤ 16) = b := ⟨_, rfl⟩
  have z2 : decide ((1 : Int) ≤ (s.size : Int)) = b2 := by rw [← e2]; congr 1; exact propext (by omega)
  have z3 : decide ((s.size : Int) ≤ 16) = b3 := by rw [← e3]; congr 1; exact propext (by omega)
  rw [e1, e2, e3]
  cases b1 <;> cases b2 <;> cases b3
  all_goals
    go_enter Try.func95, Try.ntmps95
    go_wp2_with (go_at_call 104; refine cI.mono ?_; rintro e w' ⟨rfl, hb⟩)
    go_ret
    exact ⟨rfl, hb⟩
end Go.Proofs.Ytfpkgdenohcglaa.Name
/- inode.Name, in the printed functions' form. -/
namespace Go.Proofs.Ytfpkgdenohcglaa.PZ
open Go.RowKit
def inode_Name.f (a0 : ByteArray) : Option (Bool) := some (Name.nameB a0)
theorem inode_Name.calls (a0 : ByteArray) (r : Bool) (w : World) (h : inode_Name.f a0 = some r) :
    Calls Try.prog 95 #[.string a0] w fun e w' => e = .returned (.bool r) ∧ Below w.heap.size w w' := by
  obtain rfl : Name.nameB a0 = r := Option.some.inj h
  exact Name.name_c a0 w
end Go.Proofs.Ytfpkgdenohcglaa.PZ
/- event.word walked; in the printed functions' form. -/
namespace Go.Proofs.Ytfpkgdenohcglaa.Evt
set_option linter.unusedVariables false
set_option linter.unusedSimpArgs false
open Go.RowKit Go.Proofs.Ytfpkgdenohcglaa.Base Go.Proofs.Ytfpkgdenohcglaa.TlvPlain Go.Proofs.Ytfpkgdenohcglaa.Aid Go.Proofs.YtfpkgdenohcglaaW.PrintWords Go.Proofs.YtfpkgdenohcglaaW.PrintLast Go.Proofs.YtfpkgdenohcglaaW.PrintMore
/-- A kind's word. -/
def wordS (n : Int) : ByteArray :=
  if n = 1 then ⟨#[115, 99, 104, 101, 100, 117, 108, 101]⟩ else
  if n = 2 then ⟨#[99, 97, 115, 101]⟩ else
  if n = 3 then ⟨#[115, 117, 98, 106, 101, 99, 116]⟩ else
  if n = 4 then ⟨#[105, 110, 103, 101, 115, 116]⟩ else
  if n = 5 then ⟨#[109, 105, 108, 101]⟩ else
  if n = 6 then ⟨#[114, 101, 99, 108, 97, 115, 115]⟩ else
  if n = 7 then ⟨#[104, 111, 108, 100]⟩ else
  if n = 8 then ⟨#[114, 101, 108, 101, 97, 115, 101]⟩ else
  if n = 9 then ⟨#[97, 109, 101, 110, 100]⟩ else
  if n = 10 then ⟨#[112, 117, 114, 103, 101]⟩ else
  if n = 11 then ⟨#[101, 114, 97, 115, 101]⟩ else
  if n = 12 then ⟨#[115, 104, 114, 101, 100]⟩ else
  if n = 13 then ⟨#[107, 101, 101, 112]⟩ else
  if n = 14 then ⟨#[114, 101, 100, 97, 99, 116]⟩ else
  ⟨#[]⟩
theorem word_empty (n : Int) : (wordS n).toList = [] ↔ ¬ (1 ≤ n ∧ n ≤ 14) := by
  by_cases h : 1 ≤ n ∧ n ≤ 14
  · have : n = 1 ∨ n = 2 ∨ n = 3 ∨ n = 4 ∨ n = 5 ∨ n = 6 ∨ n = 7 ∨ n = 8 ∨ n = 9 ∨ n = 10 ∨ n = 11 ∨ n = 12 ∨ n = 13 ∨ n = 14 := by omega
    constructor
    · intro e
      rw [ByteArray.toList_eq] at e
      rcases this with rfl | rfl | rfl | rfl | rfl | rfl | rfl | rfl | rfl | rfl | rfl | rfl | rfl | rfl <;> simp [wordS] at e
    · intro e
      exact absurd h e
  · constructor
    · intro _; exact h
    · intro _
      unfold wordS
      repeat rw [if_neg (by omega)]
      rw [ByteArray.toList_eq]
set_option maxHeartbeats 4000000 in
set_option maxRecDepth 100000 in
theorem word_c (n : Int) (w : World) : Calls Try.prog 111 #[.int .i64 n] w fun e w' => e = .returned (.string (wordS n)) ∧ Below w.heap.size w w' := by
  have hu140 := Try.underlying140
  by_cases h0 : n < 0
  · have d0 : decide (n < 0) = true := decide_eq_true h0
    have e : wordS n = ⟨#[]⟩ := by unfold wordS; repeat rw [if_neg (by omega)]
    rw [e]
    go_enter Try.func111, Try.ntmps111
    go_wp2
    go_ret
    exact ⟨rfl, below_alloc (Below.refl _ _) _⟩
  by_cases h1 : 15 ≤ n
  · have d0 : decide (n < 0) = false := decide_eq_false h0
    have d1 : decide (15 ≤ n) = true := decide_eq_true h1
    have e : wordS n = ⟨#[]⟩ := by unfold wordS; repeat rw [if_neg (by omega)]
    rw [e]
    go_enter Try.func111, Try.ntmps111
    go_wp2
    go_ret
    exact ⟨rfl, below_alloc (Below.refl _ _) _⟩
  have hn : n = 0 ∨ n = 1 ∨ n = 2 ∨ n = 3 ∨ n = 4 ∨ n = 5 ∨ n = 6 ∨ n = 7 ∨ n = 8 ∨ n = 9 ∨ n = 10 ∨ n = 11 ∨ n = 12 ∨ n = 13 ∨ n = 14 := by omega
  clear h0 h1
  rcases hn with rfl | rfl | rfl | rfl | rfl | rfl | rfl | rfl | rfl | rfl | rfl | rfl | rfl | rfl | rfl
  all_goals
    go_enter Try.func111, Try.ntmps111
    go_wp2
    go_ret
    exact ⟨rfl, below_alloc (Below.refl _ _) _⟩
end Go.Proofs.Ytfpkgdenohcglaa.Evt
namespace Go.Proofs.Ytfpkgdenohcglaa.PZ
open Go.RowKit Go.Proofs.YtfpkgdenohcglaaW.PrintWords
def event_word.f (a0 : Int) : Option (ByteArray) := some (Evt.wordS a0)
theorem event_word.calls (a0 : Int) (r : ByteArray) (w : World) (h : event_word.f a0 = some r) :
    Calls Try.prog 111 #[.int .i64 a0] w fun e w' => e = .returned (.string r) ∧ Below w.heap.size w w' := by
  obtain rfl : Evt.wordS a0 = r := Option.some.inj h
  exact Evt.word_c a0 w
end Go.Proofs.Ytfpkgdenohcglaa.PZ
-- printed for this claim by a program (pall.sh)
-- mended by fixpz.py
namespace Go.Proofs.Ytfpkgdenohcglaa.PZ
open Go.RowKit Go.Proofs.YtfpkgdenohcglaaW.PrintWords Go.Proofs.YtfpkgdenohcglaaW.PrintLast Go.Proofs.YtfpkgdenohcglaaW.PrintMore
attribute [local go_sem] max2_int min2_int max_two min_two max_three min_three max_four min_four   -- for this text's walks alone
set_option linter.unusedVariables false
set_option linter.unusedSimpArgs false

/-! ### hanaperref12_Name: function 107 -/
def hanaperref12_Name.l0 : Nat → ByteArray → Int → Option (Bool)
 | 0, _, _ => none
 | k + 1, x0, x3 => if x3 < (x0.size : Int) then (if 0 ≤ x3 then (if (bt x0 x3) < 97 then (if (bt x0 x3) < 48 then (if (bt x0 x3) = 46 then (hanaperref12_Name.l0 k x0 (wrap64 (x3 + 1))) else (if (bt x0 x3) = 45 then (hanaperref12_Name.l0 k x0 (wrap64 (x3 + 1))) else (if (bt x0 x3) = 95 then (hanaperref12_Name.l0 k x0 (wrap64 (x3 + 1))) else (some false)))) else (if (bt x0 x3) > 57 then (if (bt x0 x3) = 46 then (hanaperref12_Name.l0 k x0 (wrap64 (x3 + 1))) else (if (bt x0 x3) = 45 then (hanaperref12_Name.l0 k x0 (wrap64 (x3 + 1))) else (if (bt x0 x3) = 95 then (hanaperref12_Name.l0 k x0 (wrap64 (x3 + 1))) else (some false)))) else (hanaperref12_Name.l0 k x0 (wrap64 (x3 + 1))))) else (if (bt x0 x3) > 122 then (if (bt x0 x3) < 48 then (if (bt x0 x3) = 46 then (hanaperref12_Name.l0 k x0 (wrap64 (x3 + 1))) else (if (bt x0 x3) = 45 then (hanaperref12_Name.l0 k x0 (wrap64 (x3 + 1))) else (if (bt x0 x3) = 95 then (hanaperref12_Name.l0 k x0 (wrap64 (x3 + 1))) else (some false)))) else (if (bt x0 x3) > 57 then (if (bt x0 x3) = 46 then (hanaperref12_Name.l0 k x0 (wrap64 (x3 + 1))) else (if (bt x0 x3) = 45 then (hanaperref12_Name.l0 k x0 (wrap64 (x3 + 1))) else (if (bt x0 x3) = 95 then (hanaperref12_Name.l0 k x0 (wrap64 (x3 + 1))) else (some false)))) else (hanaperref12_Name.l0 k x0 (wrap64 (x3 + 1))))) else (hanaperref12_Name.l0 k x0 (wrap64 (x3 + 1))))) else (none)) else (if (x0.size : Int) ≥ 1 then (some (decide ((x0.size : Int) ≤ 16))) else (some false))
def hanaperref12_Name.f (k : Nat) (a0 : ByteArray) : Option (Bool) := hanaperref12_Name.l0 k a0 0
set_option maxHeartbeats 8000000 in
set_option maxRecDepth 100000 in
theorem hanaperref12_Name.calls (k : Nat) (a0 : ByteArray) (r : Bool) (w : World) (h : hanaperref12_Name.f k a0 = some r) :
  Calls Try.prog 107 #[.string a0] w fun e w' => e = .returned (.bool r) ∧ Drawn0 w w' := by
 have H : (hanaperref12_Name.l0 k a0 0) = some r := h
 clear h
 have H' := Aside0.mk H
 clear H
 go_enter Try.func107, Try.ntmps107
 go_wp2
 go_loopg [3] k (fun kq v3 w' => ∃ (x3_1 : Int), v3 = .int .i64 x3_1 ∧ Aside0 (hanaperref12_Name.l0 kq a0 x3_1 = some r) ∧ Aside0 (kq ≤ k) ∧ Drawn0 w w')
 case atStart => exact ⟨(0), (by first | rfl | (simp; done) | (simp [*]; done)), H', ⟨Nat.le_refl _⟩, by repeat (first | exact Drawn0.refl _ | apply Drawn0.step)⟩
 case round =>
  clear H'
  (try clear c1)
  obtain ⟨x3_1, rfl, HA, HK1, ⟨m1, rfl⟩⟩ := hrel
  cases gk with
  | zero => exact absurd HA.out (by simp [hanaperref12_Name.l0])
  | succ k1 =>
   have H := HA.out
   clear HA
   simp only [hanaperref12_Name.l0] at H
   by_cases c2 : x3_1 < (a0.size : Int)
   ·rw [if_pos c2] at H
    have c2b0 : decide (x3_1 < (a0.size : Int)) = true := decide_eq_true c2
    clear c2
    by_cases c3 : 0 ≤ x3_1
    ·rw [if_pos c3] at H
     have c3b0 : decide (0 ≤ x3_1) = true := decide_eq_true c3
     clear c3
     by_cases c5 : (bt a0 x3_1) < 97
     ·rw [if_pos c5] at H
      have c5b0 : decide ((bt a0 x3_1) < 97) = true := decide_eq_true c5
      clear c5
      by_cases c6 : (bt a0 x3_1) < 48
      ·rw [if_pos c6] at H
       have c6b0 : decide ((bt a0 x3_1) < 48) = true := decide_eq_true c6
       clear c6
       by_cases c7 : (bt a0 x3_1) = 46
       ·rw [if_pos c7] at H
        have c7b0 : ((bt a0 x3_1) == 46) = true := beq_iff_eq.mpr c7
        have c7b1 : ((bt a0 x3_1) != 46) = false := bne_eq_false_iff_eq.mpr c7
        clear c7
        have H' := Aside0.mk H
        clear H
        have p4 : 0 ≤ (x3_1 : Int) := of_decide_eq_true (by first | (with_reducible assumption) | assumption)
        have q4 : x3_1 < (a0.size : Int) := of_decide_eq_true (by first | (with_reducible assumption) | assumption)
        have hx4 := bt_at a0 x3_1
        replace p4 := eq_true p4
        replace q4 := eq_true q4
        go_wp2
        go_roundg k1
        case measure => have := HK1.out; omega
        case rel => exact ⟨(wrap64 (x3_1 + 1)), (by first | rfl | (simp; done) | (simp [*]; done)), H', ⟨by have := HK1.out; omega⟩, by repeat (first | exact Drawn0.refl _ | apply Drawn0.step)⟩
       ·rw [if_neg c7] at H
        have c7b0 : ((bt a0 x3_1) == 46) = false := beq_eq_false_iff_ne.mpr c7
        have c7b1 : ((bt a0 x3_1) != 46) = true := bne_iff_ne.mpr c7
        by_cases c8 : (bt a0 x3_1) = 45
        ·rw [if_pos c8] at H
         have c8b0 : ((bt a0 x3_1) == 45) = true := beq_iff_eq.mpr c8
         have c8b1 : ((bt a0 x3_1) != 45) = false := bne_eq_false_iff_eq.mpr c8
         clear c8
         have H' := Aside0.mk H
         clear H
         have p4 : 0 ≤ (x3_1 : Int) := of_decide_eq_true (by first | (with_reducible assumption) | assumption)
         have q4 : x3_1 < (a0.size : Int) := of_decide_eq_true (by first | (with_reducible assumption) | assumption)
         have hx4 := bt_at a0 x3_1
         replace p4 := eq_true p4
         replace q4 := eq_true q4
         go_wp2
         go_roundg k1
         case measure => have := HK1.out; omega
         case rel => exact ⟨(wrap64 (x3_1 + 1)), (by first | rfl | (simp; done) | (simp [*]; done)), H', ⟨by have := HK1.out; omega⟩, by repeat (first | exact Drawn0.refl _ | apply Drawn0.step)⟩
        ·rw [if_neg c8] at H
         have c8b0 : ((bt a0 x3_1) == 45) = false := beq_eq_false_iff_ne.mpr c8
         have c8b1 : ((bt a0 x3_1) != 45) = true := bne_iff_ne.mpr c8
         by_cases c9 : (bt a0 x3_1) = 95
         ·rw [if_pos c9] at H
          have c9b0 : ((bt a0 x3_1) == 95) = true := beq_iff_eq.mpr c9
          have c9b1 : ((bt a0 x3_1) != 95) = false := bne_eq_false_iff_eq.mpr c9
          clear c9
          have H' := Aside0.mk H
          clear H
          have p4 : 0 ≤ (x3_1 : Int) := of_decide_eq_true (by first | (with_reducible assumption) | assumption)
          have q4 : x3_1 < (a0.size : Int) := of_decide_eq_true (by first | (with_reducible assumption) | assumption)
          have hx4 := bt_at a0 x3_1
          replace p4 := eq_true p4
          replace q4 := eq_true q4
          go_wp2
          go_roundg k1
          case measure => have := HK1.out; omega
          case rel => exact ⟨(wrap64 (x3_1 + 1)), (by first | rfl | (simp; done) | (simp [*]; done)), H', ⟨by have := HK1.out; omega⟩, by repeat (first | exact Drawn0.refl _ | apply Drawn0.step)⟩
         ·rw [if_neg c9] at H
          have c9b0 : ((bt a0 x3_1) == 95) = false := beq_eq_false_iff_ne.mpr c9
          have c9b1 : ((bt a0 x3_1) != 95) = true := bne_iff_ne.mpr c9
          obtain rfl := Option.some.inj H
          have p4 : 0 ≤ (x3_1 : Int) := of_decide_eq_true (by first | (with_reducible assumption) | assumption)
          have q4 : x3_1 < (a0.size : Int) := of_decide_eq_true (by first | (with_reducible assumption) | assumption)
          have hx4 := bt_at a0 x3_1
          replace p4 := eq_true p4
          replace q4 := eq_true q4
          go_wp2
          go_ret
          exact ⟨by first | rfl | (simp; done) | (simp [*]; done), by repeat (first | exact Drawn0.refl _ | apply Drawn0.step)⟩
      ·rw [if_neg c6] at H
       have c6b0 : decide ((bt a0 x3_1) < 48) = false := decide_eq_false c6
       clear c6
       by_cases c10 : (bt a0 x3_1) > 57
       ·rw [if_pos c10] at H
        have c10b0 : decide (57 < (bt a0 x3_1)) = true := decide_eq_true c10
        clear c10
        by_cases c11 : (bt a0 x3_1) = 46
        ·rw [if_pos c11] at H
         have c11b0 : ((bt a0 x3_1) == 46) = true := beq_iff_eq.mpr c11
         have c11b1 : ((bt a0 x3_1) != 46) = false := bne_eq_false_iff_eq.mpr c11
         clear c11
         have H' := Aside0.mk H
         clear H
         have p4 : 0 ≤ (x3_1 : Int) := of_decide_eq_true (by first | (with_reducible assumption) | assumption)
         have q4 : x3_1 < (a0.size : Int) := of_decide_eq_true (by first | (with_reducible assumption) | assumption)
         have hx4 := bt_at a0 x3_1
         replace p4 := eq_true p4
         replace q4 := eq_true q4
         go_wp2
         go_roundg k1
         case measure => have := HK1.out; omega
         case rel => exact ⟨(wrap64 (x3_1 + 1)), (by first | rfl | (simp; done) | (simp [*]; done)), H', ⟨by have := HK1.out; omega⟩, by repeat (first | exact Drawn0.refl _ | apply Drawn0.step)⟩
        ·rw [if_neg c11] at H
         have c11b0 : ((bt a0 x3_1) == 46) = false := beq_eq_false_iff_ne.mpr c11
         have c11b1 : ((bt a0 x3_1) != 46) = true := bne_iff_ne.mpr c11
         by_cases c12 : (bt a0 x3_1) = 45
         ·rw [if_pos c12] at H
          have c12b0 : ((bt a0 x3_1) == 45) = true := beq_iff_eq.mpr c12
          have c12b1 : ((bt a0 x3_1) != 45) = false := bne_eq_false_iff_eq.mpr c12
          clear c12
          have H' := Aside0.mk H
          clear H
          have p4 : 0 ≤ (x3_1 : Int) := of_decide_eq_true (by first | (with_reducible assumption) | assumption)
          have q4 : x3_1 < (a0.size : Int) := of_decide_eq_true (by first | (with_reducible assumption) | assumption)
          have hx4 := bt_at a0 x3_1
          replace p4 := eq_true p4
          replace q4 := eq_true q4
          go_wp2
          go_roundg k1
          case measure => have := HK1.out; omega
          case rel => exact ⟨(wrap64 (x3_1 + 1)), (by first | rfl | (simp; done) | (simp [*]; done)), H', ⟨by have := HK1.out; omega⟩, by repeat (first | exact Drawn0.refl _ | apply Drawn0.step)⟩
         ·rw [if_neg c12] at H
          have c12b0 : ((bt a0 x3_1) == 45) = false := beq_eq_false_iff_ne.mpr c12
          have c12b1 : ((bt a0 x3_1) != 45) = true := bne_iff_ne.mpr c12
          by_cases c13 : (bt a0 x3_1) = 95
          ·rw [if_pos c13] at H
           have c13b0 : ((bt a0 x3_1) == 95) = true := beq_iff_eq.mpr c13
           have c13b1 : ((bt a0 x3_1) != 95) = false := bne_eq_false_iff_eq.mpr c13
           clear c13
           have H' := Aside0.mk H
           clear H
           have p4 : 0 ≤ (x3_1 : Int) := of_decide_eq_true (by first | (with_reducible assumption) | assumption)
           have q4 : x3_1 < (a0.size : Int) := of_decide_eq_true (by first | (with_reducible assumption) | assumption)
           have hx4 := bt_at a0 x3_1
           replace p4 := eq_true p4
           replace q4 := eq_true q4
           go_wp2
           go_roundg k1
           case measure => have := HK1.out; omega
           case rel => exact ⟨(wrap64 (x3_1 + 1)), (by first | rfl | (simp; done) | (simp [*]; done)), H', ⟨by have := HK1.out; omega⟩, by repeat (first | exact Drawn0.refl _ | apply Drawn0.step)⟩
          ·rw [if_neg c13] at H
           have c13b0 : ((bt a0 x3_1) == 95) = false := beq_eq_false_iff_ne.mpr c13
           have c13b1 : ((bt a0 x3_1) != 95) = true := bne_iff_ne.mpr c13
           obtain rfl := Option.some.inj H
           have p4 : 0 ≤ (x3_1 : Int) := of_decide_eq_true (by first | (with_reducible assumption) | assumption)
           have q4 : x3_1 < (a0.size : Int) := of_decide_eq_true (by first | (with_reducible assumption) | assumption)
           have hx4 := bt_at a0 x3_1
           replace p4 := eq_true p4
           replace q4 := eq_true q4
           go_wp2
           go_ret
           exact ⟨by first | rfl | (simp; done) | (simp [*]; done), by repeat (first | exact Drawn0.refl _ | apply Drawn0.step)⟩
       ·rw [if_neg c10] at H
        have c10b0 : decide (57 < (bt a0 x3_1)) = false := decide_eq_false c10
        clear c10
        have H' := Aside0.mk H
        clear H
        have p4 : 0 ≤ (x3_1 : Int) := of_decide_eq_true (by first | (with_reducible assumption) | assumption)
        have q4 : x3_1 < (a0.size : Int) := of_decide_eq_true (by first | (with_reducible assumption) | assumption)
        have hx4 := bt_at a0 x3_1
        replace p4 := eq_true p4
        replace q4 := eq_true q4
        go_wp2
        go_roundg k1
        case measure => have := HK1.out; omega
        case rel => exact ⟨(wrap64 (x3_1 + 1)), (by first | rfl | (simp; done) | (simp [*]; done)), H', ⟨by have := HK1.out; omega⟩, by repeat (first | exact Drawn0.refl _ | apply Drawn0.step)⟩
     ·rw [if_neg c5] at H
      have c5b0 : decide ((bt a0 x3_1) < 97) = false := decide_eq_false c5
      clear c5
      by_cases c14 : (bt a0 x3_1) > 122
      ·rw [if_pos c14] at H
       have c14b0 : decide (122 < (bt a0 x3_1)) = true := decide_eq_true c14
       clear c14
       by_cases c15 : (bt a0 x3_1) < 48
       ·rw [if_pos c15] at H
        have c15b0 : decide ((bt a0 x3_1) < 48) = true := decide_eq_true c15
        clear c15
        by_cases c16 : (bt a0 x3_1) = 46
        ·rw [if_pos c16] at H
         have c16b0 : ((bt a0 x3_1) == 46) = true := beq_iff_eq.mpr c16
         have c16b1 : ((bt a0 x3_1) != 46) = false := bne_eq_false_iff_eq.mpr c16
         clear c16
         have H' := Aside0.mk H
         clear H
         have p4 : 0 ≤ (x3_1 : Int) := of_decide_eq_true (by first | (with_reducible assumption) | assumption)
         have q4 : x3_1 < (a0.size : Int) := of_decide_eq_true (by first | (with_reducible assumption) | assumption)
         have hx4 := bt_at a0 x3_1
         replace p4 := eq_true p4
         replace q4 := eq_true q4
         go_wp2
         go_roundg k1
         case measure => have := HK1.out; omega
         case rel => exact ⟨(wrap64 (x3_1 + 1)), (by first | rfl | (simp; done) | (simp [*]; done)), H', ⟨by have := HK1.out; omega⟩, by repeat (first | exact Drawn0.refl _ | apply Drawn0.step)⟩
        ·rw [if_neg c16] at H
         have c16b0 : ((bt a0 x3_1) == 46) = false := beq_eq_false_iff_ne.mpr c16
         have c16b1 : ((bt a0 x3_1) != 46) = true := bne_iff_ne.mpr c16
         by_cases c17 : (bt a0 x3_1) = 45
         ·rw [if_pos c17] at H
          have c17b0 : ((bt a0 x3_1) == 45) = true := beq_iff_eq.mpr c17
          have c17b1 : ((bt a0 x3_1) != 45) = false := bne_eq_false_iff_eq.mpr c17
          clear c17
          have H' := Aside0.mk H
          clear H
          have p4 : 0 ≤ (x3_1 : Int) := of_decide_eq_true (by first | (with_reducible assumption) | assumption)
          have q4 : x3_1 < (a0.size : Int) := of_decide_eq_true (by first | (with_reducible assumption) | assumption)
          have hx4 := bt_at a0 x3_1
          replace p4 := eq_true p4
          replace q4 := eq_true q4
          go_wp2
          go_roundg k1
          case measure => have := HK1.out; omega
          case rel => exact ⟨(wrap64 (x3_1 + 1)), (by first | rfl | (simp; done) | (simp [*]; done)), H', ⟨by have := HK1.out; omega⟩, by repeat (first | exact Drawn0.refl _ | apply Drawn0.step)⟩
         ·rw [if_neg c17] at H
          have c17b0 : ((bt a0 x3_1) == 45) = false := beq_eq_false_iff_ne.mpr c17
          have c17b1 : ((bt a0 x3_1) != 45) = true := bne_iff_ne.mpr c17
          by_cases c18 : (bt a0 x3_1) = 95
          ·rw [if_pos c18] at H
           have c18b0 : ((bt a0 x3_1) == 95) = true := beq_iff_eq.mpr c18
           have c18b1 : ((bt a0 x3_1) != 95) = false := bne_eq_false_iff_eq.mpr c18
           clear c18
           have H' := Aside0.mk H
           clear H
           have p4 : 0 ≤ (x3_1 : Int) := of_decide_eq_true (by first | (with_reducible assumption) | assumption)
           have q4 : x3_1 < (a0.size : Int) := of_decide_eq_true (by first | (with_reducible assumption) | assumption)
           have hx4 := bt_at a0 x3_1
           replace p4 := eq_true p4
           replace q4 := eq_true q4
           go_wp2
           go_roundg k1
           case measure => have := HK1.out; omega
           case rel => exact ⟨(wrap64 (x3_1 + 1)), (by first | rfl | (simp; done) | (simp [*]; done)), H', ⟨by have := HK1.out; omega⟩, by repeat (first | exact Drawn0.refl _ | apply Drawn0.step)⟩
          ·rw [if_neg c18] at H
           have c18b0 : ((bt a0 x3_1) == 95) = false := beq_eq_false_iff_ne.mpr c18
           have c18b1 : ((bt a0 x3_1) != 95) = true := bne_iff_ne.mpr c18
           obtain rfl := Option.some.inj H
           have p4 : 0 ≤ (x3_1 : Int) := of_decide_eq_true (by first | (with_reducible assumption) | assumption)
           have q4 : x3_1 < (a0.size : Int) := of_decide_eq_true (by first | (with_reducible assumption) | assumption)
           have hx4 := bt_at a0 x3_1
           replace p4 := eq_true p4
           replace q4 := eq_true q4
           go_wp2
           go_ret
           exact ⟨by first | rfl | (simp; done) | (simp [*]; done), by repeat (first | exact Drawn0.refl _ | apply Drawn0.step)⟩
       ·rw [if_neg c15] at H
        have c15b0 : decide ((bt a0 x3_1) < 48) = false := decide_eq_false c15
        clear c15
        by_cases c19 : (bt a0 x3_1) > 57
        ·rw [if_pos c19] at H
         have c19b0 : decide (57 < (bt a0 x3_1)) = true := decide_eq_true c19
         clear c19
         by_cases c20 : (bt a0 x3_1) = 46
         ·rw [if_pos c20] at H
          have c20b0 : ((bt a0 x3_1) == 46) = true := beq_iff_eq.mpr c20
          have c20b1 : ((bt a0 x3_1) != 46) = false := bne_eq_false_iff_eq.mpr c20
          clear c20
          have H' := Aside0.mk H
          clear H
          have p4 : 0 ≤ (x3_1 : Int) := of_decide_eq_true (by first | (with_reducible assumption) | assumption)
          have q4 : x3_1 < (a0.size : Int) := of_decide_eq_true (by first | (with_reducible assumption) | assumption)
          have hx4 := bt_at a0 x3_1
          replace p4 := eq_true p4
          replace q4 := eq_true q4
          go_wp2
          go_roundg k1
          case measure => have := HK1.out; omega
          case rel => exact ⟨(wrap64 (x3_1 + 1)), (by first | rfl | (simp; done) | (simp [*]; done)), H', ⟨by have := HK1.out; omega⟩, by repeat (first | exact Drawn0.refl _ | apply Drawn0.step)⟩
         ·rw [if_neg c20] at H
          have c20b0 : ((bt a0 x3_1) == 46) = false := beq_eq_false_iff_ne.mpr c20
          have c20b1 : ((bt a0 x3_1) != 46) = true := bne_iff_ne.mpr c20
          by_cases c21 : (bt a0 x3_1) = 45
          ·rw [if_pos c21] at H
           have c21b0 : ((bt a0 x3_1) == 45) = true := beq_iff_eq.mpr c21
           have c21b1 : ((bt a0 x3_1) != 45) = false := bne_eq_false_iff_eq.mpr c21
           clear c21
           have H' := Aside0.mk H
           clear H
           have p4 : 0 ≤ (x3_1 : Int) := of_decide_eq_true (by first | (with_reducible assumption) | assumption)
           have q4 : x3_1 < (a0.size : Int) := of_decide_eq_true (by first | (with_reducible assumption) | assumption)
           have hx4 := bt_at a0 x3_1
           replace p4 := eq_true p4
           replace q4 := eq_true q4
           go_wp2
           go_roundg k1
           case measure => have := HK1.out; omega
           case rel => exact ⟨(wrap64 (x3_1 + 1)), (by first | rfl | (simp; done) | (simp [*]; done)), H', ⟨by have := HK1.out; omega⟩, by repeat (first | exact Drawn0.refl _ | apply Drawn0.step)⟩
          ·rw [if_neg c21] at H
           have c21b0 : ((bt a0 x3_1) == 45) = false := beq_eq_false_iff_ne.mpr c21
           have c21b1 : ((bt a0 x3_1) != 45) = true := bne_iff_ne.mpr c21
           by_cases c22 : (bt a0 x3_1) = 95
           ·rw [if_pos c22] at H
            have c22b0 : ((bt a0 x3_1) == 95) = true := beq_iff_eq.mpr c22
            have c22b1 : ((bt a0 x3_1) != 95) = false := bne_eq_false_iff_eq.mpr c22
            clear c22
            have H' := Aside0.mk H
            clear H
            have p4 : 0 ≤ (x3_1 : Int) := of_decide_eq_true (by first | (with_reducible assumption) | assumption)
            have q4 : x3_1 < (a0.size : Int) := of_decide_eq_true (by first | (with_reducible assumption) | assumption)
            have hx4 := bt_at a0 x3_1
            replace p4 := eq_true p4
            replace q4 := eq_true q4
            go_wp2
            go_roundg k1
            case measure => have := HK1.out; omega
            case rel => exact ⟨(wrap64 (x3_1 + 1)), (by first | rfl | (simp; done) | (simp [*]; done)), H', ⟨by have := HK1.out; omega⟩, by repeat (first | exact Drawn0.refl _ | apply Drawn0.step)⟩
           ·rw [if_neg c22] at H
            have c22b0 : ((bt a0 x3_1) == 95) = false := beq_eq_false_iff_ne.mpr c22
            have c22b1 : ((bt a0 x3_1) != 95) = true := bne_iff_ne.mpr c22
            obtain rfl := Option.some.inj H
            have p4 : 0 ≤ (x3_1 : Int) := of_decide_eq_true (by first | (with_reducible assumption) | assumption)
            have q4 : x3_1 < (a0.size : Int) := of_decide_eq_true (by first | (with_reducible assumption) | assumption)
            have hx4 := bt_at a0 x3_1
            replace p4 := eq_true p4
            replace q4 := eq_true q4
            go_wp2
            go_ret
            exact ⟨by first | rfl | (simp; done) | (simp [*]; done), by repeat (first | exact Drawn0.refl _ | apply Drawn0.step)⟩
        ·rw [if_neg c19] at H
         have c19b0 : decide (57 < (bt a0 x3_1)) = false := decide_eq_false c19
         clear c19
         have H' := Aside0.mk H
         clear H
         have p4 : 0 ≤ (x3_1 : Int) := of_decide_eq_true (by first | (with_reducible assumption) | assumption)
         have q4 : x3_1 < (a0.size : Int) := of_decide_eq_true (by first | (with_reducible assumption) | assumption)
         have hx4 := bt_at a0 x3_1
         replace p4 := eq_true p4
         replace q4 := eq_true q4
         go_wp2
         go_roundg k1
         case measure => have := HK1.out; omega
         case rel => exact ⟨(wrap64 (x3_1 + 1)), (by first | rfl | (simp; done) | (simp [*]; done)), H', ⟨by have := HK1.out; omega⟩, by repeat (first | exact Drawn0.refl _ | apply Drawn0.step)⟩
      ·rw [if_neg c14] at H
       have c14b0 : decide (122 < (bt a0 x3_1)) = false := decide_eq_false c14
       clear c14
       have H' := Aside0.mk H
       clear H
       have p4 : 0 ≤ (x3_1 : Int) := of_decide_eq_true (by first | (with_reducible assumption) | assumption)
       have q4 : x3_1 < (a0.size : Int) := of_decide_eq_true (by first | (with_reducible assumption) | assumption)
       have hx4 := bt_at a0 x3_1
       replace p4 := eq_true p4
       replace q4 := eq_true q4
       go_wp2
       go_roundg k1
       case measure => have := HK1.out; omega
       case rel => exact ⟨(wrap64 (x3_1 + 1)), (by first | rfl | (simp; done) | (simp [*]; done)), H', ⟨by have := HK1.out; omega⟩, by repeat (first | exact Drawn0.refl _ | apply Drawn0.step)⟩
    ·rw [if_neg c3] at H
     exact absurd H (by simp)
   ·rw [if_neg c2] at H
    have c2b0 : decide (x3_1 < (a0.size : Int)) = false := decide_eq_false c2
    clear c2
    by_cases c23 : (a0.size : Int) ≥ 1
    ·rw [if_pos c23] at H
     have c23b0 : decide (1 ≤ (a0.size : Int)) = true := decide_eq_true c23
     have c23b1 : decide (1 ≤ a0.size) = true := decide_eq_true (by omega)
     clear c23
     obtain rfl := Option.some.inj H
     go_wp2
     go_ret
     exact ⟨by first | rfl | (simp; done) | (simp [*]; done), by repeat (first | exact Drawn0.refl _ | apply Drawn0.step)⟩
    ·rw [if_neg c23] at H
     have c23b0 : decide (1 ≤ (a0.size : Int)) = false := decide_eq_false c23
     have c23b1 : decide (1 ≤ a0.size) = false := decide_eq_false (by omega)
     clear c23
     obtain rfl := Option.some.inj H
     go_wp2
     go_ret
     exact ⟨by first | rfl | (simp; done) | (simp [*]; done), by repeat (first | exact Drawn0.refl _ | apply Drawn0.step)⟩

end Go.Proofs.Ytfpkgdenohcglaa.PZ
/- Which texts may be names: the document's answer is the same. -/
namespace Go.Proofs.Ytfpkgdenohcglaa.Name
open Go.RowKit Go.Lib Go.Proofs.Ytfpkgdenohcglaa.Base Go.Proofs.Ytfpkgdenohcglaa.Aid Go.Proofs.Ytfpkgdenohcglaa.PZ Go.Proofs.YtfpkgdenohcglaaW.PrintWords Go.Proofs.YtfpkgdenohcglaaW.PrintLast Go.Proofs.YtfpkgdenohcglaaW.PrintMore

theorem letB_high {r : Nat} (h : 128 ≤ r) : letB r = false := by
  unfold letB
  rw [decide_eq_false (p := r ≤ 122) (by omega), decide_eq_false (p := r ≤ 57) (by omega), decide_eq_false (p := r = 46) (by omega), decide_eq_false (p := r = 45) (by omega), decide_eq_false (p := r = 95) (by omega)]
  simp
theorem dec_low (s : ByteArray) (pos : Nat) (hb : (s.get! pos).toNat < 128) : Utf8.decode s pos = ((s.get! pos).toNat, 1) := by
  unfold Utf8.decode
  simp only [Nat.add_zero]
  rw [if_pos hb]
theorem dec_high (s : ByteArray) (pos : Nat) (hb : ¬ (s.get! pos).toNat < 128) : 128 ≤ (Utf8.decode s pos).1 := by
  unfold Utf8.decode
  simp only [Nat.add_zero]
  rw [if_neg hb]
  split
  · split
    · assumption
    · simp [Utf8.runeError]
  · split
    · split
      · next h => simp only [Bool.and_eq_true, decide_eq_true_eq] at h; omega
      · simp [Utf8.runeError]
    · split
      · split
        · next h => simp only [Bool.and_eq_true, decide_eq_true_eq] at h; omega
        · simp [Utf8.runeError]
      · simp [Utf8.runeError]
theorem bt_get (s : ByteArray) (i : Nat) (h : i < s.size) : bt s (i : Int) = ((s.get! i).toNat : Int) := by
  unfold bt
  rw [Int.toNat_natCast, dif_pos h]
  congr 2
  show s.data[i] = s.data[i]!
  exact (getElem!_pos s.data i h).symm
theorem idx_all (s : ByteArray) : ∀ (f pos : Nat), s.size ≤ pos + f → (Lib.idxFuncFrom (fun r => !letB r) true s f pos < 0 ↔ ∀ i, pos ≤ i → i < s.size → letB (s.get! i).toNat = true) := by
  intro f
  induction f with
  | zero =>
    intro pos h
    constructor
    · intro _ i h1 h2; omega
    · intro _; show (-1 : Int) < 0; omega
  | succ f ih =>
    intro pos h
    unfold Lib.idxFuncFrom
    by_cases hp : pos < s.size
    · rw [if_pos hp]
      by_cases hb : (s.get! pos).toNat < 128
      · rw [dec_low s pos hb]
        dsimp only
        cases hl : letB (s.get! pos).toNat with
        | false =>
          rw [if_pos (by rfl)]
          constructor
          · intro h2; omega
          · intro h2; have := h2 pos (Nat.le_refl _) hp; rw [hl] at this; cases this
        | true =>
          rw [if_neg (by simp), ih (pos + 1) (by omega)]
          constructor
          · intro h2 i h3 h4
            by_cases e : i = pos
            · rw [e]; exact hl
            · exact h2 i (by omega) h4
          · intro h2 i h3 h4; exact h2 i (by omega) h4
      · have hd := dec_high s pos hb
        rw [if_pos (by rw [letB_high hd]; rfl)]
        constructor
        · intro h2; omega
        · intro h2
          have := h2 pos (Nat.le_refl _) hp
          rw [letB_high (by omega)] at this
          cases this
    · rw [if_neg hp]
      constructor
      · intro _ i h1 h2; omega
      · intro _; omega
theorem name_iff (s : ByteArray) : nameB s = (decide (∀ i, i < s.size → letB (s.get! i).toNat = true) && (decide (1 ≤ s.size) && decide (s.size ≤ 16))) := by
  unfold nameB Lib.idxFunc
  congr 1
  have := idx_all s s.size 0 (by omega)
  exact decide_eq_decide.2 (this.trans ⟨fun h i hi => h i (Nat.zero_le _) hi, fun h i _ hi => h i hi⟩)
theorem name_ev (s : ByteArray) (hs : s.size ≤ 4611686018427387904) : Ev (fun k => hanaperref12_Name.f k s) (nameB s) := by
  have key : ∀ (d i : Nat), i + d = s.size → (∀ j, j < i → letB (s.get! j).toNat = true) → Ev (fun k => hanaperref12_Name.l0 k s (i : Int)) (nameB s) := by
    intro d
    induction d with
    | zero =>
      intro i hi hall
      refine Ev.step (fun k => by simp only [hanaperref12_Name.l0]; rfl) ?_
      refine neg (by omega) ?_
      have h1 : nameB s = (decide (1 ≤ s.size) && decide (s.size ≤ 16)) := by
        rw [name_iff, decide_eq_true (p := ∀ i, i < s.size → letB (s.get! i).toNat = true) (fun j hj => hall j (by omega)), Bool.true_and]
      by_cases h2 : 1 ≤ s.size
      · refine pos (by omega) (now ?_)
        rw [h1, decide_eq_true h2, Bool.true_and]
        exact decide_eq_decide.2 (by omega)
      · refine neg (by omega) (now ?_)
        rw [h1, decide_eq_false h2, Bool.false_and]
    | succ d ih =>
      intro i hi hall
      have hil : i < s.size := by omega
      have hc := bt_get s i hil
      have hr := bt_range s (i : Int)
      refine Ev.step (fun k => by simp only [hanaperref12_Name.l0]; rfl) ?_
      refine pos (by omega) (pos (by omega) ?_)
      rw [inc hil hs]
      have hgo : letB (s.get! i).toNat = true → Ev (fun k => hanaperref12_Name.l0 k s ((i + 1 : Nat) : Int)) (nameB s) := fun h => ih (i + 1) (by omega) (fun j hj => by
        by_cases e : j = i
        · rw [e]; exact h
        · exact hall j (by omega))
      have hno : letB (s.get! i).toNat = false → Ev (fun _ => some false) (nameB s) := fun h => now (by
        rw [name_iff, decide_eq_false (p := ∀ i, i < s.size → letB (s.get! i).toNat = true) (fun h2 => by have := h2 i hil; rw [h] at this; cases this), Bool.false_and])
      obtain ⟨c, hcc⟩ : ∃ c, bt s (i : Int) = c := ⟨_, rfl⟩
      obtain ⟨g, hg⟩ : ∃ g, (s.get! i).toNat = g := ⟨_, rfl⟩
      rw [hcc] at hc hr ⊢
      rw [hg] at hc hgo hno
      have hl : letB g = true ↔ ((97 ≤ c ∧ c ≤ 122) ∨ (48 ≤ c ∧ c ≤ 57) ∨ c = 46 ∨ c = 45 ∨ c = 95) := by
        simp only [letB, Bool.or_eq_true, Bool.and_eq_true, decide_eq_true_eq]
        omega
      have hl2 : letB g = false ↔ ¬ ((97 ≤ c ∧ c ≤ 122) ∨ (48 ≤ c ∧ c ≤ 57) ∨ c = 46 ∨ c = 45 ∨ c = 95) := by
        rw [← hl]
        cases letB g <;> simp
      rw [hl] at hgo
      rw [hl2] at hno
      have hcases : c < 45 ∨ c = 45 ∨ c = 46 ∨ c = 47 ∨ (48 ≤ c ∧ c ≤ 57) ∨ (58 ≤ c ∧ c ≤ 94) ∨ c = 95 ∨ c = 96 ∨ (97 ≤ c ∧ c ≤ 122) ∨ 122 < c := by omega
      rcases hcases with h | h | h | h | h | h | h | h | h | h
      all_goals
        repeat (first | refine pos (by omega) ?_ | refine neg (by omega) ?_)
        first | exact hgo (by omega) | exact hno (by omega)
  exact key s.size 0 (by omega) (fun j hj => by omega)
end Go.Proofs.Ytfpkgdenohcglaa.Name
-- printed for this claim by a program (pall.sh)
-- mended by fixpz.py
namespace Go.Proofs.Ytfpkgdenohcglaa.PZ
open Go.RowKit Go.Proofs.YtfpkgdenohcglaaW.PrintWords Go.Proofs.YtfpkgdenohcglaaW.PrintLast Go.Proofs.YtfpkgdenohcglaaW.PrintMore
attribute [local go_sem] max2_int min2_int max_two min_two max_three min_three max_four min_four   -- for this text's walks alone
set_option linter.unusedVariables false
set_option linter.unusedSimpArgs false

/-! ### event_name: function 112 -/
def event_name.f (a0 : ByteArray) : Option (Bool) := if a0.toList = ([] : List UInt8) then (some true) else ((inode_Name.f a0).bind fun t101 => (some t101))
set_option maxHeartbeats 8000000 in
set_option maxRecDepth 100000 in
theorem event_name.calls (a0 : ByteArray) (r : Bool) (w : World) (h : event_name.f a0 = some r) :
  Calls Try.prog 112 #[.string a0] w fun e w' => e = .returned (.bool r) ∧ Below w.heap.size w w' := by
 have HB := Aside0.mk (Below.refl w.heap.size w)
 have H : (if a0.toList = ([] : List UInt8) then (some true) else ((inode_Name.f a0).bind fun t101 => (some t101))) = some r := h
 clear h
 by_cases c2 : a0.toList = ([] : List UInt8)
 ·rw [if_pos c2] at H
  have c2b0 : (a0.toList == ([] : List UInt8)) = true := beq_iff_eq.mpr c2
  have c2b1 : (a0.toList != ([] : List UInt8)) = false := bne_eq_false_iff_eq.mpr c2
  clear c2
  obtain rfl := Option.some.inj H
  go_enter Try.func112, Try.ntmps112
  go_wp2
  go_ret
  exact ⟨by first | rfl | (simp [errW_none, errW_some] <;> rfl) | (simp [*, errW_none, errW_some] <;> rfl), by repeat (first | (with_reducible first | exact HB.out | apply below_alloc | apply pw_below_drewN | apply below_drew1) | exact HB.out)⟩
 ·rw [if_neg c2] at H
  have c2b0 : (a0.toList == ([] : List UInt8)) = false := beq_eq_false_iff_ne.mpr c2
  have c2b1 : (a0.toList != ([] : List UInt8)) = true := bne_iff_ne.mpr c2
  replace H := Option.bind_eq_some_iff.mp H
  obtain ⟨t101, A30, H⟩ := H
  replace H : (some t101) = some r := H
  have A3 := Aside0.mk A30
  clear A30
  obtain rfl := Option.some.inj H
  go_enter Try.func112, Try.ntmps112
  go_wp2_with (first | (go_at_call 95; (with_reducible refine (inode_Name.calls a0 t101 _ A3.out).mono ?_); rintro e w4 ⟨rfl, hb⟩; have n0_ := Aside0.mk (below_step (by repeat (first | (with_reducible first | exact HB.out | apply below_alloc | apply pw_below_drewN | apply below_drew1) | exact HB.out)) hb); clear HB; have HB := n0_; clear n0_; (try clear hb); (try clear hb2); (try clear hk); (try clear hi)))
  go_ret
  exact ⟨by first | rfl | (simp [errW_none, errW_some] <;> rfl) | (simp [*, errW_none, errW_some] <;> rfl), by repeat (first | (with_reducible first | exact HB.out | apply below_alloc | apply pw_below_drewN | apply below_drew1) | exact HB.out)⟩

end Go.Proofs.Ytfpkgdenohcglaa.PZ
-- printed for this claim by a program (pall.sh)
-- mended by fixpz.py
namespace Go.Proofs.Ytfpkgdenohcglaa.PZ
open Go.RowKit Go.Proofs.YtfpkgdenohcglaaW.PrintWords Go.Proofs.YtfpkgdenohcglaaW.PrintLast Go.Proofs.YtfpkgdenohcglaaW.PrintMore
attribute [local go_sem] max2_int min2_int max_two min_two max_three min_three max_four min_four   -- for this text's walks alone
set_option linter.unusedVariables false
set_option linter.unusedSimpArgs false

/-! ### event_Check: function 103 -/
def event_Check.f (a0_0 : Int) (a0_1 : Int) (a0_2 : ByteArray) (a0_3 : ByteArray) : Option (Int) := (event_word.f a0_0).bind fun t102 => (if t102.toList = ([] : List UInt8) then (some 1) else (if a0_1 < 0 then (some 1) else (if a0_1 > 1099511627776 then (some 1) else ((event_name.f a0_2).bind fun t103 => (if t103 = true then ((event_name.f a0_3).bind fun t104 => (if t104 = true then (some 0) else (some 1))) else (some 1))))))
set_option maxHeartbeats 8000000 in
set_option maxRecDepth 100000 in
theorem event_Check.calls (a0_0 : Int) (a0_1 : Int) (a0_2 : ByteArray) (a0_3 : ByteArray) (r : Int) (w : World) (h : event_Check.f a0_0 a0_1 a0_2 a0_3 = some r) :
  Calls Try.prog 103 #[.agg #[.int .i64 a0_0, .int .i64 a0_1, .string a0_2, .string a0_3]] w fun e w' => e = .returned (.int .i64 r) ∧ Below w.heap.size w w' := by
 have hu60 := Try.underlying60
 have HB := Aside0.mk (Below.refl w.heap.size w)
 have H : ((event_word.f a0_0).bind fun t102 => (if t102.toList = ([] : List UInt8) then (some 1) else (if a0_1 < 0 then (some 1) else (if a0_1 > 1099511627776 then (some 1) else ((event_name.f a0_2).bind fun t103 => (if t103 = true then ((event_name.f a0_3).bind fun t104 => (if t104 = true then (some 0) else (some 1))) else (some 1))))))) = some r := h
 clear h
 replace H := Option.bind_eq_some_iff.mp H
 obtain ⟨t102, A20, H⟩ := H
 replace H : (if t102.toList = ([] : List UInt8) then (some 1) else (if a0_1 < 0 then (some 1) else (if a0_1 > 1099511627776 then (some 1) else ((event_name.f a0_2).bind fun t103 => (if t103 = true then ((event_name.f a0_3).bind fun t104 => (if t104 = true then (some 0) else (some 1))) else (some 1)))))) = some r := H
 have A2 := Aside0.mk A20
 clear A20
 by_cases c3 : t102.toList = ([] : List UInt8)
 ·rw [if_pos c3] at H
  have c3b0 : (t102.toList == ([] : List UInt8)) = true := beq_iff_eq.mpr c3
  have c3b1 : (t102.toList != ([] : List UInt8)) = false := bne_eq_false_iff_eq.mpr c3
  clear c3
  obtain rfl := Option.some.inj H
  go_enter Try.func103, Try.ntmps103
  go_wp2_with (first | ((with_reducible refine gate_dst (N := 1) rfl ?_); refine box_event ?hg (N := 1) ?hd (cs := #[.int .i64 a0_0, .int .i64 a0_1, .string a0_2, .string a0_3]) (t := 60) ?hr ?_; (case hd => rfl); (case hg => rfl); (case hr => first | (go_simp; done) | (go_simp; rfl)); intro gb101 hg w4 hbox hb; have n0_ := Aside0.mk (below_step (by repeat (first | (with_reducible first | exact HB.out | apply below_alloc | apply pw_below_drewN | apply below_drew1) | exact HB.out)) hb); have n1_ := Aside0.mk (hbox); have n2_ := Aside0.mk ((by rw [hg]; exact (below_size (by repeat (first | (with_reducible first | exact HB.out | apply below_alloc | apply pw_below_drewN | apply below_drew1) | exact HB.out))) : w.heap.size ≤ gb101)); have n3_ := Aside0.mk ((by rw [hg]; exact (below_size (by repeat (first | (with_reducible first | exact HB.out | apply below_alloc | apply pw_below_drewN | apply below_drew1) | exact HB.out))) : w.heap.size ≤ gb101)); clear HB; have HB := n0_; have BK101 := n1_; have GW101 := n2_; have GE101 := n3_; clear n0_ n1_ n2_ n3_; clear hb hbox hg; have hcz5_0 : w4.cell? ⟨gb101, 0, none⟩ = some (.int .i64 a0_0) := (blk_cell BK101.out 0).trans rfl; have hcz5_1 : w4.cell? ⟨gb101, 1, none⟩ = some (.int .i64 a0_1) := (blk_cell BK101.out 1).trans rfl; have hcz5_2 : w4.cell? ⟨gb101, 2, none⟩ = some (.string a0_2) := (blk_cell BK101.out 2).trans rfl; have hcz5_3 : w4.cell? ⟨gb101, 3, none⟩ = some (.string a0_3) := (blk_cell BK101.out 3).trans rfl; have hfz5_0 := blk_frozen BK101.out 0; have hfz5_1 := blk_frozen BK101.out 1; have hfz5_2 := blk_frozen BK101.out 2; have hfz5_3 := blk_frozen BK101.out 3) | ((with_reducible refine gate_callee (f := 111) rfl ?_); refine goesL_ (some 5) rfl rfl Try.func111 (by kernel_rfl) rfl #[.int .i64 a0_0] rfl (by (try simp only [List.map_toArray, List.map_cons, List.map_nil]); first | done | rfl | (simp only [List.length_drop, List.length_take]; rfl)) ?_; (with_reducible refine (event_word.calls a0_0 t102 _ A2.out).mono ?_); rintro e w6 ⟨rfl, hb⟩; refine ⟨_, rfl, ?_⟩; have n0_ := Aside0.mk (blk_below (g := gb101) (o := .cells #[.int .i64 a0_0, .int .i64 a0_1, .string a0_2, .string a0_3] 60 (0, 0)) (by (with_reducible repeat (first | refine blk_drewN ?_ _ | refine blk_drew ?_ | refine blk_alloc ?_ _)); exact BK101.out) hb); have n1_ := Aside0.mk (below_step (by repeat (first | (with_reducible first | exact HB.out | apply below_alloc | apply pw_below_drewN | apply below_drew1 | refine below_set ?_ GE101.out) | exact HB.out)) hb); clear BK101; clear HB; have BK101 := n0_; have HB := n1_; clear n0_ n1_; (try clear hb); (try clear hb2); (try clear hk); (try clear hi)))
  go_ret
  exact ⟨by first | rfl | (simp [errW_none, errW_some] <;> rfl) | (simp [*, errW_none, errW_some] <;> rfl), by repeat (first | (with_reducible first | exact HB.out | apply below_alloc | apply pw_below_drewN | apply below_drew1 | refine below_set ?_ GE101.out) | exact HB.out)⟩
 ·rw [if_neg c3] at H
  have c3b0 : (t102.toList == ([] : List UInt8)) = false := beq_eq_false_iff_ne.mpr c3
  have c3b1 : (t102.toList != ([] : List UInt8)) = true := bne_iff_ne.mpr c3
  by_cases c7 : a0_1 < 0
  ·rw [if_pos c7] at H
   have c7b0 : decide (a0_1 < 0) = true := decide_eq_true c7
   clear c7
   obtain rfl := Option.some.inj H
   go_enter Try.func103, Try.ntmps103
   go_wp2_with (first | ((with_reducible refine gate_dst (N := 1) rfl ?_); refine box_event ?hg (N := 1) ?hd (cs := #[.int .i64 a0_0, .int .i64 a0_1, .string a0_2, .string a0_3]) (t := 60) ?hr ?_; (case hd => rfl); (case hg => rfl); (case hr => first | (go_simp; done) | (go_simp; rfl)); intro gb101 hg w8 hbox hb; have n0_ := Aside0.mk (below_step (by repeat (first | (with_reducible first | exact HB.out | apply below_alloc | apply pw_below_drewN | apply below_drew1) | exact HB.out)) hb); have n1_ := Aside0.mk (hbox); have n2_ := Aside0.mk ((by rw [hg]; exact (below_size (by repeat (first | (with_reducible first | exact HB.out | apply below_alloc | apply pw_below_drewN | apply below_drew1) | exact HB.out))) : w.heap.size ≤ gb101)); have n3_ := Aside0.mk ((by rw [hg]; exact (below_size (by repeat (first | (with_reducible first | exact HB.out | apply below_alloc | apply pw_below_drewN | apply below_drew1) | exact HB.out))) : w.heap.size ≤ gb101)); clear HB; have HB := n0_; have BK101 := n1_; have GW101 := n2_; have GE101 := n3_; clear n0_ n1_ n2_ n3_; clear hb hbox hg; have hcz9_0 : w8.cell? ⟨gb101, 0, none⟩ = some (.int .i64 a0_0) := (blk_cell BK101.out 0).trans rfl; have hcz9_1 : w8.cell? ⟨gb101, 1, none⟩ = some (.int .i64 a0_1) := (blk_cell BK101.out 1).trans rfl; have hcz9_2 : w8.cell? ⟨gb101, 2, none⟩ = some (.string a0_2) := (blk_cell BK101.out 2).trans rfl; have hcz9_3 : w8.cell? ⟨gb101, 3, none⟩ = some (.string a0_3) := (blk_cell BK101.out 3).trans rfl; have hfz9_0 := blk_frozen BK101.out 0; have hfz9_1 := blk_frozen BK101.out 1; have hfz9_2 := blk_frozen BK101.out 2; have hfz9_3 := blk_frozen BK101.out 3) | ((with_reducible refine gate_callee (f := 111) rfl ?_); refine goesL_ (some 5) rfl rfl Try.func111 (by kernel_rfl) rfl #[.int .i64 a0_0] rfl (by (try simp only [List.map_toArray, List.map_cons, List.map_nil]); first | done | rfl | (simp only [List.length_drop, List.length_take]; rfl)) ?_; (with_reducible refine (event_word.calls a0_0 t102 _ A2.out).mono ?_); rintro e w10 ⟨rfl, hb⟩; refine ⟨_, rfl, ?_⟩; have n0_ := Aside0.mk (blk_below (g := gb101) (o := .cells #[.int .i64 a0_0, .int .i64 a0_1, .string a0_2, .string a0_3] 60 (0, 0)) (by (with_reducible repeat (first | refine blk_drewN ?_ _ | refine blk_drew ?_ | refine blk_alloc ?_ _)); exact BK101.out) hb); have n1_ := Aside0.mk (below_step (by repeat (first | (with_reducible first | exact HB.out | apply below_alloc | apply pw_below_drewN | apply below_drew1 | refine below_set ?_ GE101.out) | exact HB.out)) hb); clear BK101; clear HB; have BK101 := n0_; have HB := n1_; clear n0_ n1_; (try clear hb); (try clear hb2); (try clear hk); (try clear hi); have hcz11_0 : w10.cell? ⟨gb101, 0, none⟩ = some (.int .i64 a0_0) := (blk_cell BK101.out 0).trans rfl; have hcz11_1 : w10.cell? ⟨gb101, 1, none⟩ = some (.int .i64 a0_1) := (blk_cell BK101.out 1).trans rfl; have hcz11_2 : w10.cell? ⟨gb101, 2, none⟩ = some (.string a0_2) := (blk_cell BK101.out 2).trans rfl; have hcz11_3 : w10.cell? ⟨gb101, 3, none⟩ = some (.string a0_3) := (blk_cell BK101.out 3).trans rfl; have hfz11_0 := blk_frozen BK101.out 0; have hfz11_1 := blk_frozen BK101.out 1; have hfz11_2 := blk_frozen BK101.out 2; have hfz11_3 := blk_frozen BK101.out 3))
   go_ret
   exact ⟨by first | rfl | (simp [errW_none, errW_some] <;> rfl) | (simp [*, errW_none, errW_some] <;> rfl), by repeat (first | (with_reducible first | exact HB.out | apply below_alloc | apply pw_below_drewN | apply below_drew1 | refine below_set ?_ GE101.out) | exact HB.out)⟩
  ·rw [if_neg c7] at H
   have c7b0 : decide (a0_1 < 0) = false := decide_eq_false c7
   clear c7
   by_cases c12 : a0_1 > 1099511627776
   ·rw [if_pos c12] at H
    have c12b0 : decide (1099511627776 < a0_1) = true := decide_eq_true c12
    clear c12
    obtain rfl := Option.some.inj H
    go_enter Try.func103, Try.ntmps103
    go_wp2_with (first | ((with_reducible refine gate_dst (N := 1) rfl ?_); refine box_event ?hg (N := 1) ?hd (cs := #[.int .i64 a0_0, .int .i64 a0_1, .string a0_2, .string a0_3]) (t := 60) ?hr ?_; (case hd => rfl); (case hg => rfl); (case hr => first | (go_simp; done) | (go_simp; rfl)); intro gb101 hg w13 hbox hb; have n0_ := Aside0.mk (below_step (by repeat (first | (with_reducible first | exact HB.out | apply below_alloc | apply pw_below_drewN | apply below_drew1) | exact HB.out)) hb); have n1_ := Aside0.mk (hbox); have n2_ := Aside0.mk ((by rw [hg]; exact (below_size (by repeat (first | (with_reducible first | exact HB.out | apply below_alloc | apply pw_below_drewN | apply below_drew1) | exact HB.out))) : w.heap.size ≤ gb101)); have n3_ := Aside0.mk ((by rw [hg]; exact (below_size (by repeat (first | (with_reducible first | exact HB.out | apply below_alloc | apply pw_below_drewN | apply below_drew1) | exact HB.out))) : w.heap.size ≤ gb101)); clear HB; have HB := n0_; have BK101 := n1_; have GW101 := n2_; have GE101 := n3_; clear n0_ n1_ n2_ n3_; clear hb hbox hg; have hcz14_0 : w13.cell? ⟨gb101, 0, none⟩ = some (.int .i64 a0_0) := (blk_cell BK101.out 0).trans rfl; have hcz14_1 : w13.cell? ⟨gb101, 1, none⟩ = some (.int .i64 a0_1) := (blk_cell BK101.out 1).trans rfl; have hcz14_2 : w13.cell? ⟨gb101, 2, none⟩ = some (.string a0_2) := (blk_cell BK101.out 2).trans rfl; have hcz14_3 : w13.cell? ⟨gb101, 3, none⟩ = some (.string a0_3) := (blk_cell BK101.out 3).trans rfl; have hfz14_0 := blk_frozen BK101.out 0; have hfz14_1 := blk_frozen BK101.out 1; have hfz14_2 := blk_frozen BK101.out 2; have hfz14_3 := blk_frozen BK101.out 3) | ((with_reducible refine gate_callee (f := 111) rfl ?_); refine goesL_ (some 5) rfl rfl Try.func111 (by kernel_rfl) rfl #[.int .i64 a0_0] rfl (by (try simp only [List.map_toArray, List.map_cons, List.map_nil]); first | done | rfl | (simp only [List.length_drop, List.length_take]; rfl)) ?_; (with_reducible refine (event_word.calls a0_0 t102 _ A2.out).mono ?_); rintro e w15 ⟨rfl, hb⟩; refine ⟨_, rfl, ?_⟩; have n0_ := Aside0.mk (blk_below (g := gb101) (o := .cells #[.int .i64 a0_0, .int .i64 a0_1, .string a0_2, .string a0_3] 60 (0, 0)) (by (with_reducible repeat (first | refine blk_drewN ?_ _ | refine blk_drew ?_ | refine blk_alloc ?_ _)); exact BK101.out) hb); have n1_ := Aside0.mk (below_step (by repeat (first | (with_reducible first | exact HB.out | apply below_alloc | apply pw_below_drewN | apply below_drew1 | refine below_set ?_ GE101.out) | exact HB.out)) hb); clear BK101; clear HB; have BK101 := n0_; have HB := n1_; clear n0_ n1_; (try clear hb); (try clear hb2); (try clear hk); (try clear hi); have hcz16_0 : w15.cell? ⟨gb101, 0, none⟩ = some (.int .i64 a0_0) := (blk_cell BK101.out 0).trans rfl; have hcz16_1 : w15.cell? ⟨gb101, 1, none⟩ = some (.int .i64 a0_1) := (blk_cell BK101.out 1).trans rfl; have hcz16_2 : w15.cell? ⟨gb101, 2, none⟩ = some (.string a0_2) := (blk_cell BK101.out 2).trans rfl; have hcz16_3 : w15.cell? ⟨gb101, 3, none⟩ = some (.string a0_3) := (blk_cell BK101.out 3).trans rfl; have hfz16_0 := blk_frozen BK101.out 0; have hfz16_1 := blk_frozen BK101.out 1; have hfz16_2 := blk_frozen BK101.out 2; have hfz16_3 := blk_frozen BK101.out 3))
    go_ret
    exact ⟨by first | rfl | (simp [errW_none, errW_some] <;> rfl) | (simp [*, errW_none, errW_some] <;> rfl), by repeat (first | (with_reducible first | exact HB.out | apply below_alloc | apply pw_below_drewN | apply below_drew1 | refine below_set ?_ GE101.out) | exact HB.out)⟩
   ·rw [if_neg c12] at H
    have c12b0 : decide (1099511627776 < a0_1) = false := decide_eq_false c12
    clear c12
    replace H := Option.bind_eq_some_iff.mp H
    obtain ⟨t103, A170, H⟩ := H
    replace H : (if t103 = true then ((event_name.f a0_3).bind fun t104 => (if t104 = true then (some 0) else (some 1))) else (some 1)) = some r := H
    have A17 := Aside0.mk A170
    clear A170
    by_cases c18 : t103 = true
    ·subst c18
     have H1 : ((event_name.f a0_3).bind fun t104 => (if t104 = true then (some 0) else (some 1))) = some r := by rw [if_pos rfl] at H; exact H
     clear H
     have H := H1
     clear H1
     replace H := Option.bind_eq_some_iff.mp H
     obtain ⟨t104, A190, H⟩ := H
     replace H : (if t104 = true then (some 0) else (some 1)) = some r := H
     have A19 := Aside0.mk A190
     clear A190
     by_cases c20 : t104 = true
     ·subst c20
      have H1 : (some 0) = some r := by rw [if_pos rfl] at H; exact H
      clear H
      have H := H1
      clear H1
      obtain rfl := Option.some.inj H
      go_enter Try.func103, Try.ntmps103
      go_wp2_with (first | ((with_reducible refine gate_dst (N := 1) rfl ?_); refine box_event ?hg (N := 1) ?hd (cs := #[.int .i64 a0_0, .int .i64 a0_1, .string a0_2, .string a0_3]) (t := 60) ?hr ?_; (case hd => rfl); (case hg => rfl); (case hr => first | (go_simp; done) | (go_simp; rfl)); intro gb101 hg w21 hbox hb; have n0_ := Aside0.mk (below_step (by repeat (first | (with_reducible first | exact HB.out | apply below_alloc | apply pw_below_drewN | apply below_drew1) | exact HB.out)) hb); have n1_ := Aside0.mk (hbox); have n2_ := Aside0.mk ((by rw [hg]; exact (below_size (by repeat (first | (with_reducible first | exact HB.out | apply below_alloc | apply pw_below_drewN | apply below_drew1) | exact HB.out))) : w.heap.size ≤ gb101)); have n3_ := Aside0.mk ((by rw [hg]; exact (below_size (by repeat (first | (with_reducible first | exact HB.out | apply below_alloc | apply pw_below_drewN | apply below_drew1) | exact HB.out))) : w.heap.size ≤ gb101)); clear HB; have HB := n0_; have BK101 := n1_; have GW101 := n2_; have GE101 := n3_; clear n0_ n1_ n2_ n3_; clear hb hbox hg; have hcz22_0 : w21.cell? ⟨gb101, 0, none⟩ = some (.int .i64 a0_0) := (blk_cell BK101.out 0).trans rfl; have hcz22_1 : w21.cell? ⟨gb101, 1, none⟩ = some (.int .i64 a0_1) := (blk_cell BK101.out 1).trans rfl; have hcz22_2 : w21.cell? ⟨gb101, 2, none⟩ = some (.string a0_2) := (blk_cell BK101.out 2).trans rfl; have hcz22_3 : w21.cell? ⟨gb101, 3, none⟩ = some (.string a0_3) := (blk_cell BK101.out 3).trans rfl; have hfz22_0 := blk_frozen BK101.out 0; have hfz22_1 := blk_frozen BK101.out 1; have hfz22_2 := blk_frozen BK101.out 2; have hfz22_3 := blk_frozen BK101.out 3) | ((with_reducible refine gate_callee (f := 111) rfl ?_); refine goesL_ (some 5) rfl rfl Try.func111 (by kernel_rfl) rfl #[.int .i64 a0_0] rfl (by (try simp only [List.map_toArray, List.map_cons, List.map_nil]); first | done | rfl | (simp only [List.length_drop, List.length_take]; rfl)) ?_; (with_reducible refine (event_word.calls a0_0 t102 _ A2.out).mono ?_); rintro e w23 ⟨rfl, hb⟩; refine ⟨_, rfl, ?_⟩; have n0_ := Aside0.mk (blk_below (g := gb101) (o := .cells #[.int .i64 a0_0, .int .i64 a0_1, .string a0_2, .string a0_3] 60 (0, 0)) (by (with_reducible repeat (first | refine blk_drewN ?_ _ | refine blk_drew ?_ | refine blk_alloc ?_ _)); exact BK101.out) hb); have n1_ := Aside0.mk (below_step (by repeat (first | (with_reducible first | exact HB.out | apply below_alloc | apply pw_below_drewN | apply below_drew1 | refine below_set ?_ GE101.out) | exact HB.out)) hb); clear BK101; clear HB; have BK101 := n0_; have HB := n1_; clear n0_ n1_; (try clear hb); (try clear hb2); (try clear hk); (try clear hi); have hcz24_0 : w23.cell? ⟨gb101, 0, none⟩ = some (.int .i64 a0_0) := (blk_cell BK101.out 0).trans rfl; have hcz24_1 : w23.cell? ⟨gb101, 1, none⟩ = some (.int .i64 a0_1) := (blk_cell BK101.out 1).trans rfl; have hcz24_2 : w23.cell? ⟨gb101, 2, none⟩ = some (.string a0_2) := (blk_cell BK101.out 2).trans rfl; have hcz24_3 : w23.cell? ⟨gb101, 3, none⟩ = some (.string a0_3) := (blk_cell BK101.out 3).trans rfl; have hfz24_0 := blk_frozen BK101.out 0; have hfz24_1 := blk_frozen BK101.out 1; have hfz24_2 := blk_frozen BK101.out 2; have hfz24_3 := blk_frozen BK101.out 3) | (go_at_call 112; (with_reducible refine (event_name.calls a0_2 true _ A17.out).mono ?_); rintro e w25 ⟨rfl, hb⟩; have n0_ := Aside0.mk (blk_below (g := gb101) (o := .cells #[.int .i64 a0_0, .int .i64 a0_1, .string a0_2, .string a0_3] 60 (0, 0)) (by (with_reducible repeat (first | refine blk_drewN ?_ _ | refine blk_drew ?_ | refine blk_alloc ?_ _)); exact BK101.out) hb); have n1_ := Aside0.mk (below_step (by repeat (first | (with_reducible first | exact HB.out | apply below_alloc | apply pw_below_drewN | apply below_drew1 | refine below_set ?_ GE101.out) | exact HB.out)) hb); clear BK101; clear HB; have BK101 := n0_; have HB := n1_; clear n0_ n1_; (try clear hb); (try clear hb2); (try clear hk); (try clear hi); have hcz26_0 : w25.cell? ⟨gb101, 0, none⟩ = some (.int .i64 a0_0) := (blk_cell BK101.out 0).trans rfl; have hcz26_1 : w25.cell? ⟨gb101, 1, none⟩ = some (.int .i64 a0_1) := (blk_cell BK101.out 1).trans rfl; have hcz26_2 : w25.cell? ⟨gb101, 2, none⟩ = some (.string a0_2) := (blk_cell BK101.out 2).trans rfl; have hcz26_3 : w25.cell? ⟨gb101, 3, none⟩ = some (.string a0_3) := (blk_cell BK101.out 3).trans rfl; have hfz26_0 := blk_frozen BK101.out 0; have hfz26_1 := blk_frozen BK101.out 1; have hfz26_2 := blk_frozen BK101.out 2; have hfz26_3 := blk_frozen BK101.out 3) | (go_at_call 112; (with_reducible refine (event_name.calls a0_3 true _ A19.out).mono ?_); rintro e w27 ⟨rfl, hb⟩; have n0_ := Aside0.mk (blk_below (g := gb101) (o := .cells #[.int .i64 a0_0, .int .i64 a0_1, .string a0_2, .string a0_3] 60 (0, 0)) (by (with_reducible repeat (first | refine blk_drewN ?_ _ | refine blk_drew ?_ | refine blk_alloc ?_ _)); exact BK101.out) hb); have n1_ := Aside0.mk (below_step (by repeat (first | (with_reducible first | exact HB.out | apply below_alloc | apply pw_below_drewN | apply below_drew1 | refine below_set ?_ GE101.out) | exact HB.out)) hb); clear BK101; clear HB; have BK101 := n0_; have HB := n1_; clear n0_ n1_; (try clear hb); (try clear hb2); (try clear hk); (try clear hi)))
      go_ret
      exact ⟨by first | rfl | (simp [errW_none, errW_some] <;> rfl) | (simp [*, errW_none, errW_some] <;> rfl), by repeat (first | (with_reducible first | exact HB.out | apply below_alloc | apply pw_below_drewN | apply below_drew1 | refine below_set ?_ GE101.out) | exact HB.out)⟩
     ·replace c20 := Bool.eq_false_iff.mpr c20
      subst c20
      have H1 : (some 1) = some r := by rw [if_neg (show ¬ (false = true) by decide)] at H; exact H
      clear H
      have H := H1
      clear H1
      obtain rfl := Option.some.inj H
      go_enter Try.func103, Try.ntmps103
      go_wp2_with (first | ((with_reducible refine gate_dst (N := 1) rfl ?_); refine box_event ?hg (N := 1) ?hd (cs := #[.int .i64 a0_0, .int .i64 a0_1, .string a0_2, .string a0_3]) (t := 60) ?hr ?_; (case hd => rfl); (case hg => rfl); (case hr => first | (go_simp; done) | (go_simp; rfl)); intro gb101 hg w28 hbox hb; have n0_ := Aside0.mk (below_step (by repeat (first | (with_reducible first | exact HB.out | apply below_alloc | apply pw_below_drewN | apply below_drew1) | exact HB.out)) hb); have n1_ := Aside0.mk (hbox); have n2_ := Aside0.mk ((by rw [hg]; exact (below_size (by repeat (first | (with_reducible first | exact HB.out | apply below_alloc | apply pw_below_drewN | apply below_drew1) | exact HB.out))) : w.heap.size ≤ gb101)); have n3_ := Aside0.mk ((by rw [hg]; exact (below_size (by repeat (first | (with_reducible first | exact HB.out | apply below_alloc | apply pw_below_drewN | apply below_drew1) | exact HB.out))) : w.heap.size ≤ gb101)); clear HB; have HB := n0_; have BK101 := n1_; have GW101 := n2_; have GE101 := n3_; clear n0_ n1_ n2_ n3_; clear hb hbox hg; have hcz29_0 : w28.cell? ⟨gb101, 0, none⟩ = some (.int .i64 a0_0) := (blk_cell BK101.out 0).trans rfl; have hcz29_1 : w28.cell? ⟨gb101, 1, none⟩ = some (.int .i64 a0_1) := (blk_cell BK101.out 1).trans rfl; have hcz29_2 : w28.cell? ⟨gb101, 2, none⟩ = some (.string a0_2) := (blk_cell BK101.out 2).trans rfl; have hcz29_3 : w28.cell? ⟨gb101, 3, none⟩ = some (.string a0_3) := (blk_cell BK101.out 3).trans rfl; have hfz29_0 := blk_frozen BK101.out 0; have hfz29_1 := blk_frozen BK101.out 1; have hfz29_2 := blk_frozen BK101.out 2; have hfz29_3 := blk_frozen BK101.out 3) | ((with_reducible refine gate_callee (f := 111) rfl ?_); refine goesL_ (some 5) rfl rfl Try.func111 (by kernel_rfl) rfl #[.int .i64 a0_0] rfl (by (try simp only [List.map_toArray, List.map_cons, List.map_nil]); first | done | rfl | (simp only [List.length_drop, List.length_take]; rfl)) ?_; (with_reducible refine (event_word.calls a0_0 t102 _ A2.out).mono ?_); rintro e w30 ⟨rfl, hb⟩; refine ⟨_, rfl, ?_⟩; have n0_ := Aside0.mk (blk_below (g := gb101) (o := .cells #[.int .i64 a0_0, .int .i64 a0_1, .string a0_2, .string a0_3] 60 (0, 0)) (by (with_reducible repeat (first | refine blk_drewN ?_ _ | refine blk_drew ?_ | refine blk_alloc ?_ _)); exact BK101.out) hb); have n1_ := Aside0.mk (below_step (by repeat (first | (with_reducible first | exact HB.out | apply below_alloc | apply pw_below_drewN | apply below_drew1 | refine below_set ?_ GE101.out) | exact HB.out)) hb); clear BK101; clear HB; have BK101 := n0_; have HB := n1_; clear n0_ n1_; (try clear hb); (try clear hb2); (try clear hk); (try clear hi); have hcz31_0 : w30.cell? ⟨gb101, 0, none⟩ = some (.int .i64 a0_0) := (blk_cell BK101.out 0).trans rfl; have hcz31_1 : w30.cell? ⟨gb101, 1, none⟩ = some (.int .i64 a0_1) := (blk_cell BK101.out 1).trans rfl; have hcz31_2 : w30.cell? ⟨gb101, 2, none⟩ = some (.string a0_2) := (blk_cell BK101.out 2).trans rfl; have hcz31_3 : w30.cell? ⟨gb101, 3, none⟩ = some (.string a0_3) := (blk_cell BK101.out 3).trans rfl; have hfz31_0 := blk_frozen BK101.out 0; have hfz31_1 := blk_frozen BK101.out 1; have hfz31_2 := blk_frozen BK101.out 2; have hfz31_3 := blk_frozen BK101.out 3) | (go_at_call 112; (with_reducible refine (event_name.calls a0_2 true _ A17.out).mono ?_); rintro e w32 ⟨rfl, hb⟩; have n0_ := Aside0.mk (blk_below (g := gb101) (o := .cells #[.int .i64 a0_0, .int .i64 a0_1, .string a0_2, .string a0_3] 60 (0, 0)) (by (with_reducible repeat (first | refine blk_drewN ?_ _ | refine blk_drew ?_ | refine blk_alloc ?_ _)); exact BK101.out) hb); have n1_ := Aside0.mk (below_step (by repeat (first | (with_reducible first | exact HB.out | apply below_alloc | apply pw_below_drewN | apply below_drew1 | refine below_set ?_ GE101.out) | exact HB.out)) hb); clear BK101; clear HB; have BK101 := n0_; have HB := n1_; clear n0_ n1_; (try clear hb); (try clear hb2); (try clear hk); (try clear hi); have hcz33_0 : w32.cell? ⟨gb101, 0, none⟩ = some (.int .i64 a0_0) := (blk_cell BK101.out 0).trans rfl; have hcz33_1 : w32.cell? ⟨gb101, 1, none⟩ = some (.int .i64 a0_1) := (blk_cell BK101.out 1).trans rfl; have hcz33_2 : w32.cell? ⟨gb101, 2, none⟩ = some (.string a0_2) := (blk_cell BK101.out 2).trans rfl; have hcz33_3 : w32.cell? ⟨gb101, 3, none⟩ = some (.string a0_3) := (blk_cell BK101.out 3).trans rfl; have hfz33_0 := blk_frozen BK101.out 0; have hfz33_1 := blk_frozen BK101.out 1; have hfz33_2 := blk_frozen BK101.out 2; have hfz33_3 := blk_frozen BK101.out 3) | (go_at_call 112; (with_reducible refine (event_name.calls a0_3 false _ A19.out).mono ?_); rintro e w34 ⟨rfl, hb⟩; have n0_ := Aside0.mk (blk_below (g := gb101) (o := .cells #[.int .i64 a0_0, .int .i64 a0_1, .string a0_2, .string a0_3] 60 (0, 0)) (by (with_reducible repeat (first | refine blk_drewN ?_ _ | refine blk_drew ?_ | refine blk_alloc ?_ _)); exact BK101.out) hb); have n1_ := Aside0.mk (below_step (by repeat (first | (with_reducible first | exact HB.out | apply below_alloc | apply pw_below_drewN | apply below_drew1 | refine below_set ?_ GE101.out) | exact HB.out)) hb); clear BK101; clear HB; have BK101 := n0_; have HB := n1_; clear n0_ n1_; (try clear hb); (try clear hb2); (try clear hk); (try clear hi)))
      go_ret
      exact ⟨by first | rfl | (simp [errW_none, errW_some] <;> rfl) | (simp [*, errW_none, errW_some] <;> rfl), by repeat (first | (with_reducible first | exact HB.out | apply below_alloc | apply pw_below_drewN | apply below_drew1 | refine below_set ?_ GE101.out) | exact HB.out)⟩
    ·replace c18 := Bool.eq_false_iff.mpr c18
     subst c18
     have H1 : (some 1) = some r := by rw [if_neg (show ¬ (false = true) by decide)] at H; exact H
     clear H
     have H := H1
     clear H1
     obtain rfl := Option.some.inj H
     go_enter Try.func103, Try.ntmps103
     go_wp2_with (first | ((with_reducible refine gate_dst (N := 1) rfl ?_); refine box_event ?hg (N := 1) ?hd (cs := #[.int .i64 a0_0, .int .i64 a0_1, .string a0_2, .string a0_3]) (t := 60) ?hr ?_; (case hd => rfl); (case hg => rfl); (case hr => first | (go_simp; done) | (go_simp; rfl)); intro gb101 hg w35 hbox hb; have n0_ := Aside0.mk (below_step (by repeat (first | (with_reducible first | exact HB.out | apply below_alloc | apply pw_below_drewN | apply below_drew1) | exact HB.out)) hb); have n1_ := Aside0.mk (hbox); have n2_ := Aside0.mk ((by rw [hg]; exact (below_size (by repeat (first | (with_reducible first | exact HB.out | apply below_alloc | apply pw_below_drewN | apply below_drew1) | exact HB.out))) : w.heap.size ≤ gb101)); have n3_ := Aside0.mk ((by rw [hg]; exact (below_size (by repeat (first | (with_reducible first | exact HB.out | apply below_alloc | apply pw_below_drewN | apply below_drew1) | exact HB.out))) : w.heap.size ≤ gb101)); clear HB; have HB := n0_; have BK101 := n1_; have GW101 := n2_; have GE101 := n3_; clear n0_ n1_ n2_ n3_; clear hb hbox hg; have hcz36_0 : w35.cell? ⟨gb101, 0, none⟩ = some (.int .i64 a0_0) := (blk_cell BK101.out 0).trans rfl; have hcz36_1 : w35.cell? ⟨gb101, 1, none⟩ = some (.int .i64 a0_1) := (blk_cell BK101.out 1).trans rfl; have hcz36_2 : w35.cell? ⟨gb101, 2, none⟩ = some (.string a0_2) := (blk_cell BK101.out 2).trans rfl; have hcz36_3 : w35.cell? ⟨gb101, 3, none⟩ = some (.string a0_3) := (blk_cell BK101.out 3).trans rfl; have hfz36_0 := blk_frozen BK101.out 0; have hfz36_1 := blk_frozen BK101.out 1; have hfz36_2 := blk_frozen BK101.out 2; have hfz36_3 := blk_frozen BK101.out 3) | ((with_reducible refine gate_callee (f := 111) rfl ?_); refine goesL_ (some 5) rfl rfl Try.func111 (by kernel_rfl) rfl #[.int .i64 a0_0] rfl (by (try simp only [List.map_toArray, List.map_cons, List.map_nil]); first | done | rfl | (simp only [List.length_drop, List.length_take]; rfl)) ?_; (with_reducible refine (event_word.calls a0_0 t102 _ A2.out).mono ?_); rintro e w37 ⟨rfl, hb⟩; refine ⟨_, rfl, ?_⟩; have n0_ := Aside0.mk (blk_below (g := gb101) (o := .cells #[.int .i64 a0_0, .int .i64 a0_1, .string a0_2, .string a0_3] 60 (0, 0)) (by (with_reducible repeat (first | refine blk_drewN ?_ _ | refine blk_drew ?_ | refine blk_alloc ?_ _)); exact BK101.out) hb); have n1_ := Aside0.mk (below_step (by repeat (first | (with_reducible first | exact HB.out | apply below_alloc | apply pw_below_drewN | apply below_drew1 | refine below_set ?_ GE101.out) | exact HB.out)) hb); clear BK101; clear HB; have BK101 := n0_; have HB := n1_; clear n0_ n1_; (try clear hb); (try clear hb2); (try clear hk); (try clear hi); have hcz38_0 : w37.cell? ⟨gb101, 0, none⟩ = some (.int .i64 a0_0) := (blk_cell BK101.out 0).trans rfl; have hcz38_1 : w37.cell? ⟨gb101, 1, none⟩ = some (.int .i64 a0_1) := (blk_cell BK101.out 1).trans rfl; have hcz38_2 : w37.cell? ⟨gb101, 2, none⟩ = some (.string a0_2) := (blk_cell BK101.out 2).trans rfl; have hcz38_3 : w37.cell? ⟨gb101, 3, none⟩ = some (.string a0_3) := (blk_cell BK101.out 3).trans rfl; have hfz38_0 := blk_frozen BK101.out 0; have hfz38_1 := blk_frozen BK101.out 1; have hfz38_2 := blk_frozen BK101.out 2; have hfz38_3 := blk_frozen BK101.out 3) | (go_at_call 112; (with_reducible refine (event_name.calls a0_2 false _ A17.out).mono ?_); rintro e w39 ⟨rfl, hb⟩; have n0_ := Aside0.mk (blk_below (g := gb101) (o := .cells #[.int .i64 a0_0, .int .i64 a0_1, .string a0_2, .string a0_3] 60 (0, 0)) (by (with_reducible repeat (first | refine blk_drewN ?_ _ | refine blk_drew ?_ | refine blk_alloc ?_ _)); exact BK101.out) hb); have n1_ := Aside0.mk (below_step (by repeat (first | (with_reducible first | exact HB.out | apply below_alloc | apply pw_below_drewN | apply below_drew1 | refine below_set ?_ GE101.out) | exact HB.out)) hb); clear BK101; clear HB; have BK101 := n0_; have HB := n1_; clear n0_ n1_; (try clear hb); (try clear hb2); (try clear hk); (try clear hi)))
     go_ret
     exact ⟨by first | rfl | (simp [errW_none, errW_some] <;> rfl) | (simp [*, errW_none, errW_some] <;> rfl), by repeat (first | (with_reducible first | exact HB.out | apply below_alloc | apply pw_below_drewN | apply below_drew1 | refine below_set ?_ GE101.out) | exact HB.out)⟩

end Go.Proofs.Ytfpkgdenohcglaa.PZ
-- printed for this claim by a program (pall.sh)
-- mended by fixpz.py
namespace Go.Proofs.Ytfpkgdenohcglaa.PZ
open Go.RowKit Go.Proofs.YtfpkgdenohcglaaW.PrintWords Go.Proofs.YtfpkgdenohcglaaW.PrintLast Go.Proofs.YtfpkgdenohcglaaW.PrintMore
attribute [local go_sem] max2_int min2_int max_two min_two max_three min_three max_four min_four   -- for this text's walks alone
set_option linter.unusedVariables false
set_option linter.unusedSimpArgs false

/-! ### event_Ends: function 94 -/
def event_Ends.f (a0_0 : Int) (a0_1 : Int) (a0_2 : ByteArray) (a0_3 : ByteArray) : Option (Bool) := (event_Check.f a0_0 a0_1 a0_2 a0_3).bind fun t102 => (if t102 = 0 then (if a0_0 = 10 then (some true) else (some (a0_0 == 11))) else (some false))
set_option maxHeartbeats 8000000 in
set_option maxRecDepth 100000 in
theorem event_Ends.calls (a0_0 : Int) (a0_1 : Int) (a0_2 : ByteArray) (a0_3 : ByteArray) (r : Bool) (w : World) (h : event_Ends.f a0_0 a0_1 a0_2 a0_3 = some r) :
  Calls Try.prog 94 #[.agg #[.int .i64 a0_0, .int .i64 a0_1, .string a0_2, .string a0_3]] w fun e w' => e = .returned (.bool r) ∧ Below w.heap.size w w' := by
 have hu60 := Try.underlying60
 have HB := Aside0.mk (Below.refl w.heap.size w)
 have H : ((event_Check.f a0_0 a0_1 a0_2 a0_3).bind fun t102 => (if t102 = 0 then (if a0_0 = 10 then (some true) else (some (a0_0 == 11))) else (some false))) = some r := h
 clear h
 replace H := Option.bind_eq_some_iff.mp H
 obtain ⟨t102, A20, H⟩ := H
 replace H : (if t102 = 0 then (if a0_0 = 10 then (some true) else (some (a0_0 == 11))) else (some false)) = some r := H
 have A2 := Aside0.mk A20
 clear A20
 by_cases c3 : t102 = 0
 ·rw [if_pos c3] at H
  have c3b0 : (t102 == 0) = true := beq_iff_eq.mpr c3
  have c3b1 : (t102 != 0) = false := bne_eq_false_iff_eq.mpr c3
  clear c3
  by_cases c4 : a0_0 = 10
  ·rw [if_pos c4] at H
   have c4b0 : (a0_0 == 10) = true := beq_iff_eq.mpr c4
   have c4b1 : (a0_0 != 10) = false := bne_eq_false_iff_eq.mpr c4
   clear c4
   obtain rfl := Option.some.inj H
   go_enter Try.func94, Try.ntmps94
   go_wp2_with (first | ((with_reducible refine gate_dst (N := 1) rfl ?_); refine box_event ?hg (N := 1) ?hd (cs := #[.int .i64 a0_0, .int .i64 a0_1, .string a0_2, .string a0_3]) (t := 60) ?hr ?_; (case hd => rfl); (case hg => rfl); (case hr => first | (go_simp; done) | (go_simp; rfl)); intro gb101 hg w5 hbox hb; have n0_ := Aside0.mk (below_step (by repeat (first | (with_reducible first | exact HB.out | apply below_alloc | apply pw_below_drewN | apply below_drew1) | exact HB.out)) hb); have n1_ := Aside0.mk (hbox); have n2_ := Aside0.mk ((by rw [hg]; exact (below_size (by repeat (first | (with_reducible first | exact HB.out | apply below_alloc | apply pw_below_drewN | apply below_drew1) | exact HB.out))) : w.heap.size ≤ gb101)); have n3_ := Aside0.mk ((by rw [hg]; exact (below_size (by repeat (first | (with_reducible first | exact HB.out | apply below_alloc | apply pw_below_drewN | apply below_drew1) | exact HB.out))) : w.heap.size ≤ gb101)); clear HB; have HB := n0_; have BK101 := n1_; have GW101 := n2_; have GE101 := n3_; clear n0_ n1_ n2_ n3_; clear hb hbox hg; have hcz6_0 : w5.cell? ⟨gb101, 0, none⟩ = some (.int .i64 a0_0) := (blk_cell BK101.out 0).trans rfl; have hcz6_1 : w5.cell? ⟨gb101, 1, none⟩ = some (.int .i64 a0_1) := (blk_cell BK101.out 1).trans rfl; have hcz6_2 : w5.cell? ⟨gb101, 2, none⟩ = some (.string a0_2) := (blk_cell BK101.out 2).trans rfl; have hcz6_3 : w5.cell? ⟨gb101, 3, none⟩ = some (.string a0_3) := (blk_cell BK101.out 3).trans rfl; have hfz6_0 := blk_frozen BK101.out 0; have hfz6_1 := blk_frozen BK101.out 1; have hfz6_2 := blk_frozen BK101.out 2; have hfz6_3 := blk_frozen BK101.out 3) | ((with_reducible refine gate_callee (f := 103) rfl ?_); refine goesL_ (some 4) rfl rfl Try.func103 (by kernel_rfl) rfl #[.agg #[.int .i64 a0_0, .int .i64 a0_1, .string a0_2, .string a0_3]] rfl (by (try simp only [List.map_toArray, List.map_cons, List.map_nil]); first | done | rfl | (simp only [List.length_drop, List.length_take]; rfl)) ?_; (with_reducible refine (event_Check.calls a0_0 a0_1 a0_2 a0_3 t102 _ A2.out).mono ?_); rintro e w7 ⟨rfl, hb⟩; refine ⟨_, rfl, ?_⟩; have n0_ := Aside0.mk (blk_below (g := gb101) (o := .cells #[.int .i64 a0_0, .int .i64 a0_1, .string a0_2, .string a0_3] 60 (0, 0)) (by (with_reducible repeat (first | refine blk_drewN ?_ _ | refine blk_drew ?_ | refine blk_alloc ?_ _)); exact BK101.out) hb); have n1_ := Aside0.mk (below_step (by repeat (first | (with_reducible first | exact HB.out | apply below_alloc | apply pw_below_drewN | apply below_drew1 | refine below_set ?_ GE101.out) | exact HB.out)) hb); clear BK101; clear HB; have BK101 := n0_; have HB := n1_; clear n0_ n1_; (try clear hb); (try clear hb2); (try clear hk); (try clear hi); have hcz8_0 : w7.cell? ⟨gb101, 0, none⟩ = some (.int .i64 a0_0) := (blk_cell BK101.out 0).trans rfl; have hcz8_1 : w7.cell? ⟨gb101, 1, none⟩ = some (.int .i64 a0_1) := (blk_cell BK101.out 1).trans rfl; have hcz8_2 : w7.cell? ⟨gb101, 2, none⟩ = some (.string a0_2) := (blk_cell BK101.out 2).trans rfl; have hcz8_3 : w7.cell? ⟨gb101, 3, none⟩ = some (.string a0_3) := (blk_cell BK101.out 3).trans rfl; have hfz8_0 := blk_frozen BK101.out 0; have hfz8_1 := blk_frozen BK101.out 1; have hfz8_2 := blk_frozen BK101.out 2; have hfz8_3 := blk_frozen BK101.out 3))
   go_ret
   exact ⟨by first | rfl | (simp [errW_none, errW_some] <;> rfl) | (simp [*, errW_none, errW_some] <;> rfl), by repeat (first | (with_reducible first | exact HB.out | apply below_alloc | apply pw_below_drewN | apply below_drew1 | refine below_set ?_ GE101.out) | exact HB.out)⟩
  ·rw [if_neg c4] at H
   have c4b0 : (a0_0 == 10) = false := beq_eq_false_iff_ne.mpr c4
   have c4b1 : (a0_0 != 10) = true := bne_iff_ne.mpr c4
   obtain rfl := Option.some.inj H
   go_enter Try.func94, Try.ntmps94
   go_wp2_with (first | ((with_reducible refine gate_dst (N := 1) rfl ?_); refine box_event ?hg (N := 1) ?hd (cs := #[.int .i64 a0_0, .int .i64 a0_1, .string a0_2, .string a0_3]) (t := 60) ?hr ?_; (case hd => rfl); (case hg => rfl); (case hr => first | (go_simp; done) | (go_simp; rfl)); intro gb101 hg w9 hbox hb; have n0_ := Aside0.mk (below_step (by repeat (first | (with_reducible first | exact HB.out | apply below_alloc | apply pw_below_drewN | apply below_drew1) | exact HB.out)) hb); have n1_ := Aside0.mk (hbox); have n2_ := Aside0.mk ((by rw [hg]; exact (below_size (by repeat (first | (with_reducible first | exact HB.out | apply below_alloc | apply pw_below_drewN | apply below_drew1) | exact HB.out))) : w.heap.size ≤ gb101)); have n3_ := Aside0.mk ((by rw [hg]; exact (below_size (by repeat (first | (with_reducible first | exact HB.out | apply below_alloc | apply pw_below_drewN | apply below_drew1) | exact HB.out))) : w.heap.size ≤ gb101)); clear HB; have HB := n0_; have BK101 := n1_; have GW101 := n2_; have GE101 := n3_; clear n0_ n1_ n2_ n3_; clear hb hbox hg; have hcz10_0 : w9.cell? ⟨gb101, 0, none⟩ = some (.int .i64 a0_0) := (blk_cell BK101.out 0).trans rfl; have hcz10_1 : w9.cell? ⟨gb101, 1, none⟩ = some (.int .i64 a0_1) := (blk_cell BK101.out 1).trans rfl; have hcz10_2 : w9.cell? ⟨gb101, 2, none⟩ = some (.string a0_2) := (blk_cell BK101.out 2).trans rfl; have hcz10_3 : w9.cell? ⟨gb101, 3, none⟩ = some (.string a0_3) := (blk_cell BK101.out 3).trans rfl; have hfz10_0 := blk_frozen BK101.out 0; have hfz10_1 := blk_frozen BK101.out 1; have hfz10_2 := blk_frozen BK101.out 2; have hfz10_3 := blk_frozen BK101.out 3) | ((with_reducible refine gate_callee (f := 103) rfl ?_); refine goesL_ (some 4) rfl rfl Try.func103 (by kernel_rfl) rfl #[.agg #[.int .i64 a0_0, .int .i64 a0_1, .string a0_2, .string a0_3]] rfl (by (try simp only [List.map_toArray, List.map_cons, List.map_nil]); first | done | rfl | (simp only [List.length_drop, List.length_take]; rfl)) ?_; (with_reducible refine (event_Check.calls a0_0 a0_1 a0_2 a0_3 t102 _ A2.out).mono ?_); rintro e w11 ⟨rfl, hb⟩; refine ⟨_, rfl, ?_⟩; have n0_ := Aside0.mk (blk_below (g := gb101) (o := .cells #[.int .i64 a0_0, .int .i64 a0_1, .string a0_2, .string a0_3] 60 (0, 0)) (by (with_reducible repeat (first | refine blk_drewN ?_ _ | refine blk_drew ?_ | refine blk_alloc ?_ _)); exact BK101.out) hb); have n1_ := Aside0.mk (below_step (by repeat (first | (with_reducible first | exact HB.out | apply below_alloc | apply pw_below_drewN | apply below_drew1 | refine below_set ?_ GE101.out) | exact HB.out)) hb); clear BK101; clear HB; have BK101 := n0_; have HB := n1_; clear n0_ n1_; (try clear hb); (try clear hb2); (try clear hk); (try clear hi); have hcz12_0 : w11.cell? ⟨gb101, 0, none⟩ = some (.int .i64 a0_0) := (blk_cell BK101.out 0).trans rfl; have hcz12_1 : w11.cell? ⟨gb101, 1, none⟩ = some (.int .i64 a0_1) := (blk_cell BK101.out 1).trans rfl; have hcz12_2 : w11.cell? ⟨gb101, 2, none⟩ = some (.string a0_2) := (blk_cell BK101.out 2).trans rfl; have hcz12_3 : w11.cell? ⟨gb101, 3, none⟩ = some (.string a0_3) := (blk_cell BK101.out 3).trans rfl; have hfz12_0 := blk_frozen BK101.out 0; have hfz12_1 := blk_frozen BK101.out 1; have hfz12_2 := blk_frozen BK101.out 2; have hfz12_3 := blk_frozen BK101.out 3))
   go_ret
   exact ⟨by first | rfl | (simp [errW_none, errW_some] <;> rfl) | (simp [*, errW_none, errW_some] <;> rfl), by repeat (first | (with_reducible first | exact HB.out | apply below_alloc | apply pw_below_drewN | apply below_drew1 | refine below_set ?_ GE101.out) | exact HB.out)⟩
 ·rw [if_neg c3] at H
  have c3b0 : (t102 == 0) = false := beq_eq_false_iff_ne.mpr c3
  have c3b1 : (t102 != 0) = true := bne_iff_ne.mpr c3
  obtain rfl := Option.some.inj H
  go_enter Try.func94, Try.ntmps94
  go_wp2_with (first | ((with_reducible refine gate_dst (N := 1) rfl ?_); refine box_event ?hg (N := 1) ?hd (cs := #[.int .i64 a0_0, .int .i64 a0_1, .string a0_2, .string a0_3]) (t := 60) ?hr ?_; (case hd => rfl); (case hg => rfl); (case hr => first | (go_simp; done) | (go_simp; rfl)); intro gb101 hg w13 hbox hb; have n0_ := Aside0.mk (below_step (by repeat (first | (with_reducible first | exact HB.out | apply below_alloc | apply pw_below_drewN | apply below_drew1) | exact HB.out)) hb); have n1_ := Aside0.mk (hbox); have n2_ := Aside0.mk ((by rw [hg]; exact (below_size (by repeat (first | (with_reducible first | exact HB.out | apply below_alloc | apply pw_below_drewN | apply below_drew1) | exact HB.out))) : w.heap.size ≤ gb101)); have n3_ := Aside0.mk ((by rw [hg]; exact (below_size (by repeat (first | (with_reducible first | exact HB.out | apply below_alloc | apply pw_below_drewN | apply below_drew1) | exact HB.out))) : w.heap.size ≤ gb101)); clear HB; have HB := n0_; have BK101 := n1_; have GW101 := n2_; have GE101 := n3_; clear n0_ n1_ n2_ n3_; clear hb hbox hg; have hcz14_0 : w13.cell? ⟨gb101, 0, none⟩ = some (.int .i64 a0_0) := (blk_cell BK101.out 0).trans rfl; have hcz14_1 : w13.cell? ⟨gb101, 1, none⟩ = some (.int .i64 a0_1) := (blk_cell BK101.out 1).trans rfl; have hcz14_2 : w13.cell? ⟨gb101, 2, none⟩ = some (.string a0_2) := (blk_cell BK101.out 2).trans rfl; have hcz14_3 : w13.cell? ⟨gb101, 3, none⟩ = some (.string a0_3) := (blk_cell BK101.out 3).trans rfl; have hfz14_0 := blk_frozen BK101.out 0; have hfz14_1 := blk_frozen BK101.out 1; have hfz14_2 := blk_frozen BK101.out 2; have hfz14_3 := blk_frozen BK101.out 3) | ((with_reducible refine gate_callee (f := 103) rfl ?_); refine goesL_ (some 4) rfl rfl Try.func103 (by kernel_rfl) rfl #[.agg #[.int .i64 a0_0, .int .i64 a0_1, .string a0_2, .string a0_3]] rfl (by (try simp only [List.map_toArray, List.map_cons, List.map_nil]); first | done | rfl | (simp only [List.length_drop, List.length_take]; rfl)) ?_; (with_reducible refine (event_Check.calls a0_0 a0_1 a0_2 a0_3 t102 _ A2.out).mono ?_); rintro e w15 ⟨rfl, hb⟩; refine ⟨_, rfl, ?_⟩; have n0_ := Aside0.mk (blk_below (g := gb101) (o := .cells #[.int .i64 a0_0, .int .i64 a0_1, .string a0_2, .string a0_3] 60 (0, 0)) (by (with_reducible repeat (first | refine blk_drewN ?_ _ | refine blk_drew ?_ | refine blk_alloc ?_ _)); exact BK101.out) hb); have n1_ := Aside0.mk (below_step (by repeat (first | (with_reducible first | exact HB.out | apply below_alloc | apply pw_below_drewN | apply below_drew1 | refine below_set ?_ GE101.out) | exact HB.out)) hb); clear BK101; clear HB; have BK101 := n0_; have HB := n1_; clear n0_ n1_; (try clear hb); (try clear hb2); (try clear hk); (try clear hi)))
  go_ret
  exact ⟨by first | rfl | (simp [errW_none, errW_some] <;> rfl) | (simp [*, errW_none, errW_some] <;> rfl), by repeat (first | (with_reducible first | exact HB.out | apply below_alloc | apply pw_below_drewN | apply below_drew1 | refine below_set ?_ GE101.out) | exact HB.out)⟩

end Go.Proofs.Ytfpkgdenohcglaa.PZ
-- printed for this claim by a program (pall.sh)
-- mended by fixpz.py
namespace Go.Proofs.Ytfpkgdenohcglaa.PZ
open Go.RowKit Go.Proofs.YtfpkgdenohcglaaW.PrintWords Go.Proofs.YtfpkgdenohcglaaW.PrintLast Go.Proofs.YtfpkgdenohcglaaW.PrintMore
attribute [local go_sem] max2_int min2_int max_two min_two max_three min_three max_four min_four   -- for this text's walks alone
set_option linter.unusedVariables false
set_option linter.unusedSimpArgs false

/-! ### hanaperref23_name: function 96 -/
def hanaperref23_name.f (k : Nat) (a0 : ByteArray) : Option (Bool) := if a0.toList = ([] : List UInt8) then (some true) else ((hanaperref12_Name.f k a0).bind fun t101 => (some t101))
set_option maxHeartbeats 8000000 in
set_option maxRecDepth 100000 in
theorem hanaperref23_name.calls (k : Nat) (a0 : ByteArray) (r : Bool) (w : World) (h : hanaperref23_name.f k a0 = some r) :
  Calls Try.prog 96 #[.string a0] w fun e w' => e = .returned (.bool r) ∧ Drawn0 w w' := by
 have H : (if a0.toList = ([] : List UInt8) then (some true) else ((hanaperref12_Name.f k a0).bind fun t101 => (some t101))) = some r := h
 clear h
 by_cases c2 : a0.toList = ([] : List UInt8)
 ·rw [if_pos c2] at H
  have c2b0 : (a0.toList == ([] : List UInt8)) = true := beq_iff_eq.mpr c2
  have c2b1 : (a0.toList != ([] : List UInt8)) = false := bne_eq_false_iff_eq.mpr c2
  clear c2
  obtain rfl := Option.some.inj H
  go_enter Try.func96, Try.ntmps96
  go_wp2
  go_ret
  exact ⟨by first | rfl | (simp; done) | (simp [*]; done), by repeat (first | exact Drawn0.refl _ | apply Drawn0.step)⟩
 ·rw [if_neg c2] at H
  have c2b0 : (a0.toList == ([] : List UInt8)) = false := beq_eq_false_iff_ne.mpr c2
  have c2b1 : (a0.toList != ([] : List UInt8)) = true := bne_iff_ne.mpr c2
  replace H := Option.bind_eq_some_iff.mp H
  obtain ⟨t101, A30, H⟩ := H
  replace H : (some t101) = some r := H
  have A3 := Aside0.mk A30
  clear A30
  obtain rfl := Option.some.inj H
  go_enter Try.func96, Try.ntmps96
  go_wp2_with (first | (go_at_call 107; (with_reducible refine (hanaperref12_Name.calls k a0 t101 _ A3.out).mono ?_); rintro e w' ⟨rfl, ⟨nd, rfl⟩⟩))
  go_ret
  exact ⟨by first | rfl | (simp; done) | (simp [*]; done), by repeat (first | exact Drawn0.refl _ | apply Drawn0.step)⟩

end Go.Proofs.Ytfpkgdenohcglaa.PZ
-- printed for this claim by a program (pall.sh)
-- mended by fixpz.py
namespace Go.Proofs.Ytfpkgdenohcglaa.PZ
open Go.RowKit Go.Proofs.YtfpkgdenohcglaaW.PrintWords Go.Proofs.YtfpkgdenohcglaaW.PrintLast Go.Proofs.YtfpkgdenohcglaaW.PrintMore
attribute [local go_sem] max2_int min2_int max_two min_two max_three min_three max_four min_four   -- for this text's walks alone
set_option linter.unusedVariables false
set_option linter.unusedSimpArgs false

/-! ### hanaperref23_May: function 76 -/
def hanaperref23_May.f (k : Nat) (a0_0 : Int) (a0_1 : Int) (a0_2 : ByteArray) (a0_3 : ByteArray) : Option (Bool) := if a0_0 ≥ 1 then (if a0_0 ≤ 14 then (if a0_1 ≥ 0 then (if a0_1 ≤ 1099511627776 then ((hanaperref23_name.f k a0_2).bind fun t102 => (if t102 = true then ((hanaperref23_name.f k a0_3).bind fun t103 => (some t103)) else (some false))) else (some false)) else (some false)) else (some false)) else (some false)
set_option maxHeartbeats 8000000 in
set_option maxRecDepth 100000 in
theorem hanaperref23_May.calls (k : Nat) (a0_0 : Int) (a0_1 : Int) (a0_2 : ByteArray) (a0_3 : ByteArray) (r : Bool) (w : World) (h : hanaperref23_May.f k a0_0 a0_1 a0_2 a0_3 = some r) :
  Calls Try.prog 76 #[.agg #[.int .i64 a0_0, .int .i64 a0_1, .string a0_2, .string a0_3]] w fun e w' => e = .returned (.bool r) ∧ Below w.heap.size w w' := by
 have hu60 := Try.underlying60
 have HB := Aside0.mk (Below.refl w.heap.size w)
 have H : (if a0_0 ≥ 1 then (if a0_0 ≤ 14 then (if a0_1 ≥ 0 then (if a0_1 ≤ 1099511627776 then ((hanaperref23_name.f k a0_2).bind fun t102 => (if t102 = true then ((hanaperref23_name.f k a0_3).bind fun t103 => (some t103)) else (some false))) else (some false)) else (some false)) else (some false)) else (some false)) = some r := h
 clear h
 by_cases c2 : a0_0 ≥ 1
 ·rw [if_pos c2] at H
  have c2b0 : decide (1 ≤ a0_0) = true := decide_eq_true c2
  clear c2
  by_cases c3 : a0_0 ≤ 14
  ·rw [if_pos c3] at H
   have c3b0 : decide (a0_0 ≤ 14) = true := decide_eq_true c3
   clear c3
   by_cases c4 : a0_1 ≥ 0
   ·rw [if_pos c4] at H
    have c4b0 : decide (0 ≤ a0_1) = true := decide_eq_true c4
    clear c4
    by_cases c5 : a0_1 ≤ 1099511627776
    ·rw [if_pos c5] at H
     have c5b0 : decide (a0_1 ≤ 1099511627776) = true := decide_eq_true c5
     clear c5
     replace H := Option.bind_eq_some_iff.mp H
     obtain ⟨t102, A60, H⟩ := H
     replace H : (if t102 = true then ((hanaperref23_name.f k a0_3).bind fun t103 => (some t103)) else (some false)) = some r := H
     have A6 := Aside0.mk A60
     clear A60
     by_cases c7 : t102 = true
     ·subst c7
      have H1 : ((hanaperref23_name.f k a0_3).bind fun t103 => (some t103)) = some r := by rw [if_pos rfl] at H; exact H
      clear H
      have H := H1
      clear H1
      replace H := Option.bind_eq_some_iff.mp H
      obtain ⟨t103, A80, H⟩ := H
      replace H : (some t103) = some r := H
      have A8 := Aside0.mk A80
      clear A80
      obtain rfl := Option.some.inj H
      go_enter Try.func76, Try.ntmps76
      go_wp2_with (first | ((with_reducible refine gate_dst (N := 1) rfl ?_); refine box_event ?hg (N := 1) ?hd (cs := #[.int .i64 a0_0, .int .i64 a0_1, .string a0_2, .string a0_3]) (t := 60) ?hr ?_; (case hd => rfl); (case hg => rfl); (case hr => first | (go_simp; done) | (go_simp; rfl)); intro gb101 hg w9 hbox hb; have n0_ := Aside0.mk (below_step (by repeat (first | (with_reducible first | exact HB.out | apply below_alloc | apply pw_below_drewN | apply below_drew1) | exact HB.out)) hb); have n1_ := Aside0.mk (hbox); have n2_ := Aside0.mk ((by rw [hg]; exact (below_size (by repeat (first | (with_reducible first | exact HB.out | apply below_alloc | apply pw_below_drewN | apply below_drew1) | exact HB.out))) : w.heap.size ≤ gb101)); have n3_ := Aside0.mk ((by rw [hg]; exact (below_size (by repeat (first | (with_reducible first | exact HB.out | apply below_alloc | apply pw_below_drewN | apply below_drew1) | exact HB.out))) : w.heap.size ≤ gb101)); clear HB; have HB := n0_; have BK101 := n1_; have GW101 := n2_; have GE101 := n3_; clear n0_ n1_ n2_ n3_; clear hb hbox hg; have hcz10_0 : w9.cell? ⟨gb101, 0, none⟩ = some (.int .i64 a0_0) := (blk_cell BK101.out 0).trans rfl; have hcz10_1 : w9.cell? ⟨gb101, 1, none⟩ = some (.int .i64 a0_1) := (blk_cell BK101.out 1).trans rfl; have hcz10_2 : w9.cell? ⟨gb101, 2, none⟩ = some (.string a0_2) := (blk_cell BK101.out 2).trans rfl; have hcz10_3 : w9.cell? ⟨gb101, 3, none⟩ = some (.string a0_3) := (blk_cell BK101.out 3).trans rfl; have hfz10_0 := blk_frozen BK101.out 0; have hfz10_1 := blk_frozen BK101.out 1; have hfz10_2 := blk_frozen BK101.out 2; have hfz10_3 := blk_frozen BK101.out 3) | (go_at_call 96; (with_reducible refine (hanaperref23_name.calls k a0_2 true _ A6.out).mono ?_); rintro e w' ⟨rfl, ⟨nd, rfl⟩⟩) | (go_at_call 96; (with_reducible refine (hanaperref23_name.calls k a0_3 t103 _ A8.out).mono ?_); rintro e w' ⟨rfl, ⟨nd, rfl⟩⟩))
      go_ret
      exact ⟨by first | rfl | (simp [errW_none, errW_some] <;> rfl) | (simp [*, errW_none, errW_some] <;> rfl), by repeat (first | (with_reducible first | exact HB.out | apply below_alloc | apply pw_below_drewN | apply below_drew1 | refine below_set ?_ GE101.out) | exact HB.out)⟩
     ·replace c7 := Bool.eq_false_iff.mpr c7
      subst c7
      have H1 : (some false) = some r := by rw [if_neg (show ¬ (false = true) by decide)] at H; exact H
      clear H
      have H := H1
      clear H1
      obtain rfl := Option.some.inj H
      go_enter Try.func76, Try.ntmps76
      go_wp2_with (first | ((with_reducible refine gate_dst (N := 1) rfl ?_); refine box_event ?hg (N := 1) ?hd (cs := #[.int .i64 a0_0, .int .i64 a0_1, .string a0_2, .string a0_3]) (t := 60) ?hr ?_; (case hd => rfl); (case hg => rfl); (case hr => first | (go_simp; done) | (go_simp; rfl)); intro gb101 hg w11 hbox hb; have n0_ := Aside0.mk (below_step (by repeat (first | (with_reducible first | exact HB.out | apply below_alloc | apply pw_below_drewN | apply below_drew1) | exact HB.out)) hb); have n1_ := Aside0.mk (hbox); have n2_ := Aside0.mk ((by rw [hg]; exact (below_size (by repeat (first | (with_reducible first | exact HB.out | apply below_alloc | apply pw_below_drewN | apply below_drew1) | exact HB.out))) : w.heap.size ≤ gb101)); have n3_ := Aside0.mk ((by rw [hg]; exact (below_size (by repeat (first | (with_reducible first | exact HB.out | apply below_alloc | apply pw_below_drewN | apply below_drew1) | exact HB.out))) : w.heap.size ≤ gb101)); clear HB; have HB := n0_; have BK101 := n1_; have GW101 := n2_; have GE101 := n3_; clear n0_ n1_ n2_ n3_; clear hb hbox hg; have hcz12_0 : w11.cell? ⟨gb101, 0, none⟩ = some (.int .i64 a0_0) := (blk_cell BK101.out 0).trans rfl; have hcz12_1 : w11.cell? ⟨gb101, 1, none⟩ = some (.int .i64 a0_1) := (blk_cell BK101.out 1).trans rfl; have hcz12_2 : w11.cell? ⟨gb101, 2, none⟩ = some (.string a0_2) := (blk_cell BK101.out 2).trans rfl; have hcz12_3 : w11.cell? ⟨gb101, 3, none⟩ = some (.string a0_3) := (blk_cell BK101.out 3).trans rfl; have hfz12_0 := blk_frozen BK101.out 0; have hfz12_1 := blk_frozen BK101.out 1; have hfz12_2 := blk_frozen BK101.out 2; have hfz12_3 := blk_frozen BK101.out 3) | (go_at_call 96; (with_reducible refine (hanaperref23_name.calls k a0_2 false _ A6.out).mono ?_); rintro e w' ⟨rfl, ⟨nd, rfl⟩⟩))
      go_ret
      exact ⟨by first | rfl | (simp [errW_none, errW_some] <;> rfl) | (simp [*, errW_none, errW_some] <;> rfl), by repeat (first | (with_reducible first | exact HB.out | apply below_alloc | apply pw_below_drewN | apply below_drew1 | refine below_set ?_ GE101.out) | exact HB.out)⟩
    ·rw [if_neg c5] at H
     have c5b0 : decide (a0_1 ≤ 1099511627776) = false := decide_eq_false c5
     clear c5
     obtain rfl := Option.some.inj H
     go_enter Try.func76, Try.ntmps76
     go_wp2_with (first | ((with_reducible refine gate_dst (N := 1) rfl ?_); refine box_event ?hg (N := 1) ?hd (cs := #[.int .i64 a0_0, .int .i64 a0_1, .string a0_2, .string a0_3]) (t := 60) ?hr ?_; (case hd => rfl); (case hg => rfl); (case hr => first | (go_simp; done) | (go_simp; rfl)); intro gb101 hg w13 hbox hb; have n0_ := Aside0.mk (below_step (by repeat (first | (with_reducible first | exact HB.out | apply below_alloc | apply pw_below_drewN | apply below_drew1) | exact HB.out)) hb); have n1_ := Aside0.mk (hbox); have n2_ := Aside0.mk ((by rw [hg]; exact (below_size (by repeat (first | (with_reducible first | exact HB.out | apply below_alloc | apply pw_below_drewN | apply below_drew1) | exact HB.out))) : w.heap.size ≤ gb101)); have n3_ := Aside0.mk ((by rw [hg]; exact (below_size (by repeat (first | (with_reducible first | exact HB.out | apply below_alloc | apply pw_below_drewN | apply below_drew1) | exact HB.out))) : w.heap.size ≤ gb101)); clear HB; have HB := n0_; have BK101 := n1_; have GW101 := n2_; have GE101 := n3_; clear n0_ n1_ n2_ n3_; clear hb hbox hg; have hcz14_0 : w13.cell? ⟨gb101, 0, none⟩ = some (.int .i64 a0_0) := (blk_cell BK101.out 0).trans rfl; have hcz14_1 : w13.cell? ⟨gb101, 1, none⟩ = some (.int .i64 a0_1) := (blk_cell BK101.out 1).trans rfl; have hcz14_2 : w13.cell? ⟨gb101, 2, none⟩ = some (.string a0_2) := (blk_cell BK101.out 2).trans rfl; have hcz14_3 : w13.cell? ⟨gb101, 3, none⟩ = some (.string a0_3) := (blk_cell BK101.out 3).trans rfl; have hfz14_0 := blk_frozen BK101.out 0; have hfz14_1 := blk_frozen BK101.out 1; have hfz14_2 := blk_frozen BK101.out 2; have hfz14_3 := blk_frozen BK101.out 3))
     go_ret
     exact ⟨by first | rfl | (simp [errW_none, errW_some] <;> rfl) | (simp [*, errW_none, errW_some] <;> rfl), by repeat (first | (with_reducible first | exact HB.out | apply below_alloc | apply pw_below_drewN | apply below_drew1 | refine below_set ?_ GE101.out) | exact HB.out)⟩
   ·rw [if_neg c4] at H
    have c4b0 : decide (0 ≤ a0_1) = false := decide_eq_false c4
    clear c4
    obtain rfl := Option.some.inj H
    go_enter Try.func76, Try.ntmps76
    go_wp2_with (first | ((with_reducible refine gate_dst (N := 1) rfl ?_); refine box_event ?hg (N := 1) ?hd (cs := #[.int .i64 a0_0, .int .i64 a0_1, .string a0_2, .string a0_3]) (t := 60) ?hr ?_; (case hd => rfl); (case hg => rfl); (case hr => first | (go_simp; done) | (go_simp; rfl)); intro gb101 hg w15 hbox hb; have n0_ := Aside0.mk (below_step (by repeat (first | (with_reducible first | exact HB.out | apply below_alloc | apply pw_below_drewN | apply below_drew1) | exact HB.out)) hb); have n1_ := Aside0.mk (hbox); have n2_ := Aside0.mk ((by rw [hg]; exact (below_size (by repeat (first | (with_reducible first | exact HB.out | apply below_alloc | apply pw_below_drewN | apply below_drew1) | exact HB.out))) : w.heap.size ≤ gb101)); have n3_ := Aside0.mk ((by rw [hg]; exact (below_size (by repeat (first | (with_reducible first | exact HB.out | apply below_alloc | apply pw_below_drewN | apply below_drew1) | exact HB.out))) : w.heap.size ≤ gb101)); clear HB; have HB := n0_; have BK101 := n1_; have GW101 := n2_; have GE101 := n3_; clear n0_ n1_ n2_ n3_; clear hb hbox hg; have hcz16_0 : w15.cell? ⟨gb101, 0, none⟩ = some (.int .i64 a0_0) := (blk_cell BK101.out 0).trans rfl; have hcz16_1 : w15.cell? ⟨gb101, 1, none⟩ = some (.int .i64 a0_1) := (blk_cell BK101.out 1).trans rfl; have hcz16_2 : w15.cell? ⟨gb101, 2, none⟩ = some (.string a0_2) := (blk_cell BK101.out 2).trans rfl; have hcz16_3 : w15.cell? ⟨gb101, 3, none⟩ = some (.string a0_3) := (blk_cell BK101.out 3).trans rfl; have hfz16_0 := blk_frozen BK101.out 0; have hfz16_1 := blk_frozen BK101.out 1; have hfz16_2 := blk_frozen BK101.out 2; have hfz16_3 := blk_frozen BK101.out 3))
    go_ret
    exact ⟨by first | rfl | (simp [errW_none, errW_some] <;> rfl) | (simp [*, errW_none, errW_some] <;> rfl), by repeat (first | (with_reducible first | exact HB.out | apply below_alloc | apply pw_below_drewN | apply below_drew1 | refine below_set ?_ GE101.out) | exact HB.out)⟩
  ·rw [if_neg c3] at H
   have c3b0 : decide (a0_0 ≤ 14) = false := decide_eq_false c3
   clear c3
   obtain rfl := Option.some.inj H
   go_enter Try.func76, Try.ntmps76
   go_wp2_with (first | ((with_reducible refine gate_dst (N := 1) rfl ?_); refine box_event ?hg (N := 1) ?hd (cs := #[.int .i64 a0_0, .int .i64 a0_1, .string a0_2, .string a0_3]) (t := 60) ?hr ?_; (case hd => rfl); (case hg => rfl); (case hr => first | (go_simp; done) | (go_simp; rfl)); intro gb101 hg w17 hbox hb; have n0_ := Aside0.mk (below_step (by repeat (first | (with_reducible first | exact HB.out | apply below_alloc | apply pw_below_drewN | apply below_drew1) | exact HB.out)) hb); have n1_ := Aside0.mk (hbox); have n2_ := Aside0.mk ((by rw [hg]; exact (below_size (by repeat (first | (with_reducible first | exact HB.out | apply below_alloc | apply pw_below_drewN | apply below_drew1) | exact HB.out))) : w.heap.size ≤ gb101)); have n3_ := Aside0.mk ((by rw [hg]; exact (below_size (by repeat (first | (with_reducible first | exact HB.out | apply below_alloc | apply pw_below_drewN | apply below_drew1) | exact HB.out))) : w.heap.size ≤ gb101)); clear HB; have HB := n0_; have BK101 := n1_; have GW101 := n2_; have GE101 := n3_; clear n0_ n1_ n2_ n3_; clear hb hbox hg; have hcz18_0 : w17.cell? ⟨gb101, 0, none⟩ = some (.int .i64 a0_0) := (blk_cell BK101.out 0).trans rfl; have hcz18_1 : w17.cell? ⟨gb101, 1, none⟩ = some (.int .i64 a0_1) := (blk_cell BK101.out 1).trans rfl; have hcz18_2 : w17.cell? ⟨gb101, 2, none⟩ = some (.string a0_2) := (blk_cell BK101.out 2).trans rfl; have hcz18_3 : w17.cell? ⟨gb101, 3, none⟩ = some (.string a0_3) := (blk_cell BK101.out 3).trans rfl; have hfz18_0 := blk_frozen BK101.out 0; have hfz18_1 := blk_frozen BK101.out 1; have hfz18_2 := blk_frozen BK101.out 2; have hfz18_3 := blk_frozen BK101.out 3))
   go_ret
   exact ⟨by first | rfl | (simp [errW_none, errW_some] <;> rfl) | (simp [*, errW_none, errW_some] <;> rfl), by repeat (first | (with_reducible first | exact HB.out | apply below_alloc | apply pw_below_drewN | apply below_drew1 | refine below_set ?_ GE101.out) | exact HB.out)⟩
 ·rw [if_neg c2] at H
  have c2b0 : decide (1 ≤ a0_0) = false := decide_eq_false c2
  clear c2
  obtain rfl := Option.some.inj H
  go_enter Try.func76, Try.ntmps76
  go_wp2_with (first | ((with_reducible refine gate_dst (N := 1) rfl ?_); refine box_event ?hg (N := 1) ?hd (cs := #[.int .i64 a0_0, .int .i64 a0_1, .string a0_2, .string a0_3]) (t := 60) ?hr ?_; (case hd => rfl); (case hg => rfl); (case hr => first | (go_simp; done) | (go_simp; rfl)); intro gb101 hg w19 hbox hb; have n0_ := Aside0.mk (below_step (by repeat (first | (with_reducible first | exact HB.out | apply below_alloc | apply pw_below_drewN | apply below_drew1) | exact HB.out)) hb); have n1_ := Aside0.mk (hbox); have n2_ := Aside0.mk ((by rw [hg]; exact (below_size (by repeat (first | (with_reducible first | exact HB.out | apply below_alloc | apply pw_below_drewN | apply below_drew1) | exact HB.out))) : w.heap.size ≤ gb101)); have n3_ := Aside0.mk ((by rw [hg]; exact (below_size (by repeat (first | (with_reducible first | exact HB.out | apply below_alloc | apply pw_below_drewN | apply below_drew1) | exact HB.out))) : w.heap.size ≤ gb101)); clear HB; have HB := n0_; have BK101 := n1_; have GW101 := n2_; have GE101 := n3_; clear n0_ n1_ n2_ n3_; clear hb hbox hg; have hcz20_0 : w19.cell? ⟨gb101, 0, none⟩ = some (.int .i64 a0_0) := (blk_cell BK101.out 0).trans rfl; have hcz20_1 : w19.cell? ⟨gb101, 1, none⟩ = some (.int .i64 a0_1) := (blk_cell BK101.out 1).trans rfl; have hcz20_2 : w19.cell? ⟨gb101, 2, none⟩ = some (.string a0_2) := (blk_cell BK101.out 2).trans rfl; have hcz20_3 : w19.cell? ⟨gb101, 3, none⟩ = some (.string a0_3) := (blk_cell BK101.out 3).trans rfl; have hfz20_0 := blk_frozen BK101.out 0; have hfz20_1 := blk_frozen BK101.out 1; have hfz20_2 := blk_frozen BK101.out 2; have hfz20_3 := blk_frozen BK101.out 3))
  go_ret
  exact ⟨by first | rfl | (simp [errW_none, errW_some] <;> rfl) | (simp [*, errW_none, errW_some] <;> rfl), by repeat (first | (with_reducible first | exact HB.out | apply below_alloc | apply pw_below_drewN | apply below_drew1 | refine below_set ?_ GE101.out) | exact HB.out)⟩

end Go.Proofs.Ytfpkgdenohcglaa.PZ
-- printed for this claim by a program (pall.sh)
-- mended by fixpz.py
namespace Go.Proofs.Ytfpkgdenohcglaa.PZ
open Go.RowKit Go.Proofs.YtfpkgdenohcglaaW.PrintWords Go.Proofs.YtfpkgdenohcglaaW.PrintLast Go.Proofs.YtfpkgdenohcglaaW.PrintMore
attribute [local go_sem] max2_int min2_int max_two min_two max_three min_three max_four min_four   -- for this text's walks alone
set_option linter.unusedVariables false
set_option linter.unusedSimpArgs false

/-! ### hanaperref23_Ends: function 69 -/
def hanaperref23_Ends.f (k : Nat) (a0_0 : Int) (a0_1 : Int) (a0_2 : ByteArray) (a0_3 : ByteArray) : Option (Bool) := (hanaperref23_May.f k a0_0 a0_1 a0_2 a0_3).bind fun t102 => (if t102 = true then (if a0_0 = 10 then (some true) else (some (a0_0 == 11))) else (some false))
set_option maxHeartbeats 8000000 in
set_option maxRecDepth 100000 in
theorem hanaperref23_Ends.calls (k : Nat) (a0_0 : Int) (a0_1 : Int) (a0_2 : ByteArray) (a0_3 : ByteArray) (r : Bool) (w : World) (h : hanaperref23_Ends.f k a0_0 a0_1 a0_2 a0_3 = some r) :
  Calls Try.prog 69 #[.agg #[.int .i64 a0_0, .int .i64 a0_1, .string a0_2, .string a0_3]] w fun e w' => e = .returned (.bool r) ∧ Below w.heap.size w w' := by
 have hu60 := Try.underlying60
 have HB := Aside0.mk (Below.refl w.heap.size w)
 have H : ((hanaperref23_May.f k a0_0 a0_1 a0_2 a0_3).bind fun t102 => (if t102 = true then (if a0_0 = 10 then (some true) else (some (a0_0 == 11))) else (some false))) = some r := h
 clear h
 replace H := Option.bind_eq_some_iff.mp H
 obtain ⟨t102, A20, H⟩ := H
 replace H : (if t102 = true then (if a0_0 = 10 then (some true) else (some (a0_0 == 11))) else (some false)) = some r := H
 have A2 := Aside0.mk A20
 clear A20
 by_cases c3 : t102 = true
 ·subst c3
  have H1 : (if a0_0 = 10 then (some true) else (some (a0_0 == 11))) = some r := by rw [if_pos rfl] at H; exact H
  clear H
  have H := H1
  clear H1
  by_cases c4 : a0_0 = 10
  ·rw [if_pos c4] at H
   have c4b0 : (a0_0 == 10) = true := beq_iff_eq.mpr c4
   have c4b1 : (a0_0 != 10) = false := bne_eq_false_iff_eq.mpr c4
   clear c4
   obtain rfl := Option.some.inj H
   go_enter Try.func69, Try.ntmps69
   go_wp2_with (first | ((with_reducible refine gate_dst (N := 1) rfl ?_); refine box_event ?hg (N := 1) ?hd (cs := #[.int .i64 a0_0, .int .i64 a0_1, .string a0_2, .string a0_3]) (t := 60) ?hr ?_; (case hd => rfl); (case hg => rfl); (case hr => first | (go_simp; done) | (go_simp; rfl)); intro gb101 hg w5 hbox hb; have n0_ := Aside0.mk (below_step (by repeat (first | (with_reducible first | exact HB.out | apply below_alloc | apply pw_below_drewN | apply below_drew1) | exact HB.out)) hb); have n1_ := Aside0.mk (hbox); have n2_ := Aside0.mk ((by rw [hg]; exact (below_size (by repeat (first | (with_reducible first | exact HB.out | apply below_alloc | apply pw_below_drewN | apply below_drew1) | exact HB.out))) : w.heap.size ≤ gb101)); have n3_ := Aside0.mk ((by rw [hg]; exact (below_size (by repeat (first | (with_reducible first | exact HB.out | apply below_alloc | apply pw_below_drewN | apply below_drew1) | exact HB.out))) : w.heap.size ≤ gb101)); clear HB; have HB := n0_; have BK101 := n1_; have GW101 := n2_; have GE101 := n3_; clear n0_ n1_ n2_ n3_; clear hb hbox hg; have hcz6_0 : w5.cell? ⟨gb101, 0, none⟩ = some (.int .i64 a0_0) := (blk_cell BK101.out 0).trans rfl; have hcz6_1 : w5.cell? ⟨gb101, 1, none⟩ = some (.int .i64 a0_1) := (blk_cell BK101.out 1).trans rfl; have hcz6_2 : w5.cell? ⟨gb101, 2, none⟩ = some (.string a0_2) := (blk_cell BK101.out 2).trans rfl; have hcz6_3 : w5.cell? ⟨gb101, 3, none⟩ = some (.string a0_3) := (blk_cell BK101.out 3).trans rfl; have hfz6_0 := blk_frozen BK101.out 0; have hfz6_1 := blk_frozen BK101.out 1; have hfz6_2 := blk_frozen BK101.out 2; have hfz6_3 := blk_frozen BK101.out 3) | ((with_reducible refine gate_callee (f := 76) rfl ?_); refine goesL_ (some 4) rfl rfl Try.func76 (by kernel_rfl) rfl #[.agg #[.int .i64 a0_0, .int .i64 a0_1, .string a0_2, .string a0_3]] rfl (by (try simp only [List.map_toArray, List.map_cons, List.map_nil]); first | done | rfl | (simp only [List.length_drop, List.length_take]; rfl)) ?_; (with_reducible refine (hanaperref23_May.calls k a0_0 a0_1 a0_2 a0_3 true _ A2.out).mono ?_); rintro e w7 ⟨rfl, hb⟩; refine ⟨_, rfl, ?_⟩; have n0_ := Aside0.mk (blk_below (g := gb101) (o := .cells #[.int .i64 a0_0, .int .i64 a0_1, .string a0_2, .string a0_3] 60 (0, 0)) (by (with_reducible repeat (first | refine blk_drewN ?_ _ | refine blk_drew ?_ | refine blk_alloc ?_ _)); exact BK101.out) hb); have n1_ := Aside0.mk (below_step (by repeat (first | (with_reducible first | exact HB.out | apply below_alloc | apply pw_below_drewN | apply below_drew1 | refine below_set ?_ GE101.out) | exact HB.out)) hb); clear BK101; clear HB; have BK101 := n0_; have HB := n1_; clear n0_ n1_; (try clear hb); (try clear hb2); (try clear hk); (try clear hi); have hcz8_0 : w7.cell? ⟨gb101, 0, none⟩ = some (.int .i64 a0_0) := (blk_cell BK101.out 0).trans rfl; have hcz8_1 : w7.cell? ⟨gb101, 1, none⟩ = some (.int .i64 a0_1) := (blk_cell BK101.out 1).trans rfl; have hcz8_2 : w7.cell? ⟨gb101, 2, none⟩ = some (.string a0_2) := (blk_cell BK101.out 2).trans rfl; have hcz8_3 : w7.cell? ⟨gb101, 3, none⟩ = some (.string a0_3) := (blk_cell BK101.out 3).trans rfl; have hfz8_0 := blk_frozen BK101.out 0; have hfz8_1 := blk_frozen BK101.out 1; have hfz8_2 := blk_frozen BK101.out 2; have hfz8_3 := blk_frozen BK101.out 3))
   go_ret
   exact ⟨by first | rfl | (simp [errW_none, errW_some] <;> rfl) | (simp [*, errW_none, errW_some] <;> rfl), by repeat (first | (with_reducible first | exact HB.out | apply below_alloc | apply pw_below_drewN | apply below_drew1 | refine below_set ?_ GE101.out) | exact HB.out)⟩
  ·rw [if_neg c4] at H
   have c4b0 : (a0_0 == 10) = false := beq_eq_false_iff_ne.mpr c4
   have c4b1 : (a0_0 != 10) = true := bne_iff_ne.mpr c4
   obtain rfl := Option.some.inj H
   go_enter Try.func69, Try.ntmps69
   go_wp2_with (first | ((with_reducible refine gate_dst (N := 1) rfl ?_); refine box_event ?hg (N := 1) ?hd (cs := #[.int .i64 a0_0, .int .i64 a0_1, .string a0_2, .string a0_3]) (t := 60) ?hr ?_; (case hd => rfl); (case hg => rfl); (case hr => first | (go_simp; done) | (go_simp; rfl)); intro gb101 hg w9 hbox hb; have n0_ := Aside0.mk (below_step (by repeat (first | (with_reducible first | exact HB.out | apply below_alloc | apply pw_below_drewN | apply below_drew1) | exact HB.out)) hb); have n1_ := Aside0.mk (hbox); have n2_ := Aside0.mk ((by rw [hg]; exact (below_size (by repeat (first | (with_reducible first | exact HB.out | apply below_alloc | apply pw_below_drewN | apply below_drew1) | exact HB.out))) : w.heap.size ≤ gb101)); have n3_ := Aside0.mk ((by rw [hg]; exact (below_size (by repeat (first | (with_reducible first | exact HB.out | apply below_alloc | apply pw_below_drewN | apply below_drew1) | exact HB.out))) : w.heap.size ≤ gb101)); clear HB; have HB := n0_; have BK101 := n1_; have GW101 := n2_; have GE101 := n3_; clear n0_ n1_ n2_ n3_; clear hb hbox hg; have hcz10_0 : w9.cell? ⟨gb101, 0, none⟩ = some (.int .i64 a0_0) := (blk_cell BK101.out 0).trans rfl; have hcz10_1 : w9.cell? ⟨gb101, 1, none⟩ = some (.int .i64 a0_1) := (blk_cell BK101.out 1).trans rfl; have hcz10_2 : w9.cell? ⟨gb101, 2, none⟩ = some (.string a0_2) := (blk_cell BK101.out 2).trans rfl; have hcz10_3 : w9.cell? ⟨gb101, 3, none⟩ = some (.string a0_3) := (blk_cell BK101.out 3).trans rfl; have hfz10_0 := blk_frozen BK101.out 0; have hfz10_1 := blk_frozen BK101.out 1; have hfz10_2 := blk_frozen BK101.out 2; have hfz10_3 := blk_frozen BK101.out 3) | ((with_reducible refine gate_callee (f := 76) rfl ?_); refine goesL_ (some 4) rfl rfl Try.func76 (by kernel_rfl) rfl #[.agg #[.int .i64 a0_0, .int .i64 a0_1, .string a0_2, .string a0_3]] rfl (by (try simp only [List.map_toArray, List.map_cons, List.map_nil]); first | done | rfl | (simp only [List.length_drop, List.length_take]; rfl)) ?_; (with_reducible refine (hanaperref23_May.calls k a0_0 a0_1 a0_2 a0_3 true _ A2.out).mono ?_); rintro e w11 ⟨rfl, hb⟩; refine ⟨_, rfl, ?_⟩; have n0_ := Aside0.mk (blk_below (g := gb101) (o := .cells #[.int .i64 a0_0, .int .i64 a0_1, .string a0_2, .string a0_3] 60 (0, 0)) (by (with_reducible repeat (first | refine blk_drewN ?_ _ | refine blk_drew ?_ | refine blk_alloc ?_ _)); exact BK101.out) hb); have n1_ := Aside0.mk (below_step (by repeat (first | (with_reducible first | exact HB.out | apply below_alloc | apply pw_below_drewN | apply below_drew1 | refine below_set ?_ GE101.out) | exact HB.out)) hb); clear BK101; clear HB; have BK101 := n0_; have HB := n1_; clear n0_ n1_; (try clear hb); (try clear hb2); (try clear hk); (try clear hi); have hcz12_0 : w11.cell? ⟨gb101, 0, none⟩ = some (.int .i64 a0_0) := (blk_cell BK101.out 0).trans rfl; have hcz12_1 : w11.cell? ⟨gb101, 1, none⟩ = some (.int .i64 a0_1) := (blk_cell BK101.out 1).trans rfl; have hcz12_2 : w11.cell? ⟨gb101, 2, none⟩ = some (.string a0_2) := (blk_cell BK101.out 2).trans rfl; have hcz12_3 : w11.cell? ⟨gb101, 3, none⟩ = some (.string a0_3) := (blk_cell BK101.out 3).trans rfl; have hfz12_0 := blk_frozen BK101.out 0; have hfz12_1 := blk_frozen BK101.out 1; have hfz12_2 := blk_frozen BK101.out 2; have hfz12_3 := blk_frozen BK101.out 3))
   go_ret
   exact ⟨by first | rfl | (simp [errW_none, errW_some] <;> rfl) | (simp [*, errW_none, errW_some] <;> rfl), by repeat (first | (with_reducible first | exact HB.out | apply below_alloc | apply pw_below_drewN | apply below_drew1 | refine below_set ?_ GE101.out) | exact HB.out)⟩
 ·replace c3 := Bool.eq_false_iff.mpr c3
  subst c3
  have H1 : (some false) = some r := by rw [if_neg (show ¬ (false = true) by decide)] at H; exact H
  clear H
  have H := H1
  clear H1
  obtain rfl := Option.some.inj H
  go_enter Try.func69, Try.ntmps69
  go_wp2_with (first | ((with_reducible refine gate_dst (N := 1) rfl ?_); refine box_event ?hg (N := 1) ?hd (cs := #[.int .i64 a0_0, .int .i64 a0_1, .string a0_2, .string a0_3]) (t := 60) ?hr ?_; (case hd => rfl); (case hg => rfl); (case hr => first | (go_simp; done) | (go_simp; rfl)); intro gb101 hg w13 hbox hb; have n0_ := Aside0.mk (below_step (by repeat (first | (with_reducible first | exact HB.out | apply below_alloc | apply pw_below_drewN | apply below_drew1) | exact HB.out)) hb); have n1_ := Aside0.mk (hbox); have n2_ := Aside0.mk ((by rw [hg]; exact (below_size (by repeat (first | (with_reducible first | exact HB.out | apply below_alloc | apply pw_below_drewN | apply below_drew1) | exact HB.out))) : w.heap.size ≤ gb101)); have n3_ := Aside0.mk ((by rw [hg]; exact (below_size (by repeat (first | (with_reducible first | exact HB.out | apply below_alloc | apply pw_below_drewN | apply below_drew1) | exact HB.out))) : w.heap.size ≤ gb101)); clear HB; have HB := n0_; have BK101 := n1_; have GW101 := n2_; have GE101 := n3_; clear n0_ n1_ n2_ n3_; clear hb hbox hg; have hcz14_0 : w13.cell? ⟨gb101, 0, none⟩ = some (.int .i64 a0_0) := (blk_cell BK101.out 0).trans rfl; have hcz14_1 : w13.cell? ⟨gb101, 1, none⟩ = some (.int .i64 a0_1) := (blk_cell BK101.out 1).trans rfl; have hcz14_2 : w13.cell? ⟨gb101, 2, none⟩ = some (.string a0_2) := (blk_cell BK101.out 2).trans rfl; have hcz14_3 : w13.cell? ⟨gb101, 3, none⟩ = some (.string a0_3) := (blk_cell BK101.out 3).trans rfl; have hfz14_0 := blk_frozen BK101.out 0; have hfz14_1 := blk_frozen BK101.out 1; have hfz14_2 := blk_frozen BK101.out 2; have hfz14_3 := blk_frozen BK101.out 3) | ((with_reducible refine gate_callee (f := 76) rfl ?_); refine goesL_ (some 4) rfl rfl Try.func76 (by kernel_rfl) rfl #[.agg #[.int .i64 a0_0, .int .i64 a0_1, .string a0_2, .string a0_3]] rfl (by (try simp only [List.map_toArray, List.map_cons, List.map_nil]); first | done | rfl | (simp only [List.length_drop, List.length_take]; rfl)) ?_; (with_reducible refine (hanaperref23_May.calls k a0_0 a0_1 a0_2 a0_3 false _ A2.out).mono ?_); rintro e w15 ⟨rfl, hb⟩; refine ⟨_, rfl, ?_⟩; have n0_ := Aside0.mk (blk_below (g := gb101) (o := .cells #[.int .i64 a0_0, .int .i64 a0_1, .string a0_2, .string a0_3] 60 (0, 0)) (by (with_reducible repeat (first | refine blk_drewN ?_ _ | refine blk_drew ?_ | refine blk_alloc ?_ _)); exact BK101.out) hb); have n1_ := Aside0.mk (below_step (by repeat (first | (with_reducible first | exact HB.out | apply below_alloc | apply pw_below_drewN | apply below_drew1 | refine below_set ?_ GE101.out) | exact HB.out)) hb); clear BK101; clear HB; have BK101 := n0_; have HB := n1_; clear n0_ n1_; (try clear hb); (try clear hb2); (try clear hk); (try clear hi)))
  go_ret
  exact ⟨by first | rfl | (simp [errW_none, errW_some] <;> rfl) | (simp [*, errW_none, errW_some] <;> rfl), by repeat (first | (with_reducible first | exact HB.out | apply below_alloc | apply pw_below_drewN | apply below_drew1 | refine below_set ?_ GE101.out) | exact HB.out)⟩

end Go.Proofs.Ytfpkgdenohcglaa.PZ
/- Events, plainly; event.Check, Ends, the document's May, Ends. -/
namespace Go.Proofs.Ytfpkgdenohcglaa.Evt
set_option linter.unusedVariables false
set_option linter.unusedSimpArgs false
open Go.RowKit Go.Proofs.Ytfpkgdenohcglaa.Base Go.Proofs.Ytfpkgdenohcglaa.TlvPlain Go.Proofs.Ytfpkgdenohcglaa.Lo Go.Proofs.Ytfpkgdenohcglaa.RdPlain Go.Proofs.Ytfpkgdenohcglaa.Aid Go.Proofs.Ytfpkgdenohcglaa.PZ Go.Proofs.YtfpkgdenohcglaaW.PrintWords Go.Proofs.YtfpkgdenohcglaaW.PrintLast Go.Proofs.YtfpkgdenohcglaaW.PrintMore
/-- kind, tick, A, B -/
abbrev Evn := Int × Int × ByteArray × ByteArray
def emptyS : ByteArray := ⟨#[]⟩
def zEv : Evn := (0, 0, emptyS, emptyS)
abbrev evV (x : Evn) : Value := .agg #[.int .i64 x.1, .int .i64 x.2.1, .string x.2.2.1, .string x.2.2.2]
def nmB (s : ByteArray) : Bool := decide (s.toList = []) || Name.nameB s
def mayE (x : Evn) : Bool := decide (1 ≤ x.1 ∧ x.1 ≤ 14) && (decide (0 ≤ x.2.1) && (decide (x.2.1 ≤ 1099511627776) && (nmB x.2.2.1 && nmB x.2.2.2)))
def endsE (x : Evn) : Bool := mayE x && (decide (x.1 = 10) || decide (x.1 = 11))
theorem name_ev' (s : ByteArray) : event_name.f s = some (nmB s) := by
  unfold event_name.f nmB
  by_cases h : s.toList = []
  · rw [if_pos h, decide_eq_true h]; rfl
  · rw [if_neg h, decide_eq_false h]; rfl
theorem check_ev (x : Evn) : event_Check.f x.1 x.2.1 x.2.2.1 x.2.2.2 = some (if mayE x = true then 0 else 1) := by
  unfold event_Check.f event_word.f mayE
  rw [Option.bind_some]
  by_cases h1 : 1 ≤ x.1 ∧ x.1 ≤ 14
  · rw [if_neg (fun e => (word_empty _).1 e h1), decide_eq_true h1, Bool.true_and]
    by_cases h2 : x.2.1 < 0
    · rw [if_pos h2, decide_eq_false (by omega : ¬ 0 ≤ x.2.1)]; rfl
    · rw [if_neg h2, decide_eq_true (by omega : 0 ≤ x.2.1), Bool.true_and]
      by_cases h3 : x.2.1 > 1099511627776
      · rw [if_pos h3, decide_eq_false (by omega : ¬ x.2.1 ≤ 1099511627776)]; rfl
      · rw [if_neg h3, decide_eq_true (by omega : x.2.1 ≤ 1099511627776), Bool.true_and, name_ev', Option.bind_some]
        cases nmB x.2.2.1 with
        | false => rfl
        | true =>
          rw [if_pos rfl, name_ev', Option.bind_some]
          cases nmB x.2.2.2 <;> rfl
  · rw [if_pos ((word_empty _).2 h1), decide_eq_false h1]; rfl
theorem check_c (x : Evn) (w : World) : Calls Try.prog 103 #[evV x] w fun e w' => e = .returned (.int .i64 (if mayE x = true then 0 else 1)) ∧ Below w.heap.size w w' :=
  event_Check.calls x.1 x.2.1 x.2.2.1 x.2.2.2 _ w (check_ev x)
theorem ends_ev (x : Evn) : event_Ends.f x.1 x.2.1 x.2.2.1 x.2.2.2 = some (endsE x) := by
  unfold event_Ends.f endsE
  rw [check_ev, Option.bind_some]
  cases mayE x with
  | false => rfl
  | true =>
    rw [if_pos rfl, if_pos rfl, Bool.true_and]
    by_cases h : x.1 = 10
    · rw [if_pos h, decide_eq_true h]; rfl
    · rw [if_neg h, decide_eq_false h]; rfl
theorem rname_ev (s : ByteArray) (hs : s.size ≤ 4611686018427387904) : Ev (fun k => hanaperref23_name.f k s) (nmB s) := by
  unfold hanaperref23_name.f
  unfold nmB
  by_cases h : s.toList = []
  · refine pos h (now ?_)
    rw [decide_eq_true h]; rfl
  · refine neg h ?_
    rw [decide_eq_false h, Bool.false_or]
    exact evBind (Name.name_ev s hs) (now rfl)
theorem rmay_ev (x : Evn) (h1 : x.2.2.1.size ≤ 4611686018427387904) (h2 : x.2.2.2.size ≤ 4611686018427387904) : Ev (fun k => hanaperref23_May.f k x.1 x.2.1 x.2.2.1 x.2.2.2) (mayE x) := by
  unfold hanaperref23_May.f
  unfold mayE
  by_cases c1 : x.1 ≥ 1
  · refine pos c1 ?_
    by_cases c2 : x.1 ≤ 14
    · refine pos c2 ?_
      rw [decide_eq_true (show 1 ≤ x.1 ∧ x.1 ≤ 14 from ⟨c1, c2⟩), Bool.true_and]
      by_cases c3 : x.2.1 ≥ 0
      · refine pos c3 ?_
        rw [decide_eq_true (show 0 ≤ x.2.1 from c3), Bool.true_and]
        by_cases c4 : x.2.1 ≤ 1099511627776
        · refine pos c4 ?_
          rw [decide_eq_true c4, Bool.true_and]
          refine evBind (rname_ev _ h1) ?_
          cases nmB x.2.2.1 with
          | false => exact neg (by decide) (now rfl)
          | true => exact pos rfl (evBind (rname_ev _ h2) (now rfl))
        · refine neg c4 (now ?_)
          rw [decide_eq_false c4]; rfl
      · refine neg c3 (now ?_)
        rw [decide_eq_false (show ¬ 0 ≤ x.2.1 from c3)]; rfl
    · refine neg c2 (now ?_)
      rw [decide_eq_false (fun h => c2 h.2)]; rfl
  · refine neg c1 (now ?_)
    rw [decide_eq_false (fun h => c1 h.1)]; rfl
theorem rmay_c (x : Evn) (h1 : x.2.2.1.size ≤ 4611686018427387904) (h2 : x.2.2.2.size ≤ 4611686018427387904) (w : World) : Calls Try.prog 76 #[evV x] w fun e w' => e = .returned (.bool (mayE x)) ∧ Below w.heap.size w w' := by
  obtain ⟨k, h⟩ := (rmay_ev x h1 h2).rounds
  exact hanaperref23_May.calls k x.1 x.2.1 x.2.2.1 x.2.2.2 _ w h
theorem rends_ev (x : Evn) (h1 : x.2.2.1.size ≤ 4611686018427387904) (h2 : x.2.2.2.size ≤ 4611686018427387904) : Ev (fun k => hanaperref23_Ends.f k x.1 x.2.1 x.2.2.1 x.2.2.2) (endsE x) := by
  unfold hanaperref23_Ends.f
  unfold endsE
  refine evBind (rmay_ev x h1 h2) ?_
  cases mayE x with
  | false => exact neg (by decide) (now rfl)
  | true =>
    refine pos rfl ?_
    rw [Bool.true_and]
    by_cases h : x.1 = 10
    · refine pos h (now ?_)
      rw [decide_eq_true h]; rfl
    · refine neg h (now ?_)
      rw [decide_eq_false h]; rfl
theorem rends_c (x : Evn) (h1 : x.2.2.1.size ≤ 4611686018427387904) (h2 : x.2.2.2.size ≤ 4611686018427387904) (w : World) : Calls Try.prog 69 #[evV x] w fun e w' => e = .returned (.bool (endsE x)) ∧ Below w.heap.size w w' := by
  obtain ⟨k, h⟩ := (rends_ev x h1 h2).rounds
  exact hanaperref23_Ends.calls k x.1 x.2.1 x.2.2.1 x.2.2.2 _ w h
/-- Which event bytes are. -/
def getE (b : List Int) : Option Evn := match (takeO (some b) 1).2 with
  | none => none
  | some r => match (textO (textO (countO (some r) 1099511627776).2 16).2 16).2 with
    | some [] => if mayE ((takeO (some b) 1).1.getD 0 0, (countO (some r) 1099511627776).1, strOfNums (textO (countO (some r) 1099511627776).2 16).1, strOfNums (textO (textO (countO (some r) 1099511627776).2 16).2 16).1) = true then
        some ((takeO (some b) 1).1.getD 0 0, (countO (some r) 1099511627776).1, strOfNums (textO (countO (some r) 1099511627776).2 16).1, strOfNums (textO (textO (countO (some r) 1099511627776).2 16).2 16).1) else none
    | _ => none
end Go.Proofs.Ytfpkgdenohcglaa.Evt
/- event.Get walked (printed by gen_evtget.py). -/
namespace Go.Proofs.Ytfpkgdenohcglaa.Evt
set_option linter.unusedVariables false
set_option linter.unusedSimpArgs false
open Go.RowKit Go.Proofs.Ytfpkgdenohcglaa.Base Go.Proofs.Ytfpkgdenohcglaa.TlvPlain Go.Proofs.Ytfpkgdenohcglaa.Lo Go.Proofs.Ytfpkgdenohcglaa.RdPlain Go.Proofs.Ytfpkgdenohcglaa.Aid Go.Proofs.Ytfpkgdenohcglaa.Chn Go.Proofs.YtfpkgdenohcglaaW.PrintWords Go.Proofs.YtfpkgdenohcglaaW.PrintLast Go.Proofs.YtfpkgdenohcglaaW.PrintMore
open Tlv (RdO takeO_ okO countO_ textO_ leftO_ newO)
def Blk (w : World) (k T : Nat) (cs : Array Value) : Prop := w.heap[k]? = some (.cells cs T (0, 0))
theorem Blk.cell {w : World} {k T : Nat} {cs : Array Value} (h : Blk w k T cs) (j : Nat) : w.cell? ⟨k, j, none⟩ = cs[j]? := blk_cell h j
theorem Blk.below {w w' : World} {k T : Nat} {cs : Array Value} (h : Blk w k T cs) (hb : Below w.heap.size w w') : Blk w' k T cs := blk_below h hb
theorem Blk.keep {w w' : World} {k g T : Nat} {cs : Array Value} (h : Blk w k T cs) (hk : KeepBut w w' g none) (hne : k ≠ g) : Blk w' k T cs := hk.blk h hne (by simp)
theorem Blk.lt {w : World} {k T : Nat} {cs : Array Value} (h : Blk w k T cs) : k < w.heap.size := blk_lt h
theorem set4 {w : World} {g T : Nat} {a b c d : Value} (h : Blk w g T #[a, b, c, d]) (a' b' c' d' : Value) : Blk ((((w.setCell ⟨g, 0, none⟩ a').setCell ⟨g, 1, none⟩ b').setCell ⟨g, 2, none⟩ c').setCell ⟨g, 3, none⟩ d') g T #[a', b', c', d'] := by
  have h4 := blk_set (blk_set (blk_set (blk_set h 0 a') 1 b') 2 c') 3 d'
  simpa [Blk] using h4
theorem below_set4 {w0 w : World} {g : Nat} (h : Below w0.heap.size w0 w) (hg : w0.heap.size ≤ g) (a b c d : Value) : Below w0.heap.size w0 ((((w.setCell ⟨g, 0, none⟩ a).setCell ⟨g, 1, none⟩ b).setCell ⟨g, 2, none⟩ c).setCell ⟨g, 3, none⟩ d) :=
  below_set (below_set (below_set (below_set h hg) hg) hg) hg
theorem info_ev : (Try.prog.info? 60).map (fun i => (i.zero, i.size, i.bytes)) = some (some (.agg #[.int .i64 0, .int .i64 0, .string ⟨#[]⟩, .string ⟨#[]⟩]), 4, 48) := by kernel_rfl
theorem info_evS : (Try.prog.info? 60).map (·.size) = some 4 := by kernel_rfl
theorem wp_alloc_ev {o : Oper} {a : Act} {Q : Exit → Act → World → Prop} {K : Act → World → Prop} {w : World} (ho : o.op = .alloc 60)
    (h : K (a.put o.dst (.pointer (some ⟨w.heap.size, 0, none⟩))) (w.alloc (.cells #[.int .i64 0, .int .i64 0, .string ⟨#[]⟩, .string ⟨#[]⟩] 60))) : Oper.wp Try.prog o a w K Q := by
  obtain ⟨i, hi, hz, hs, hb⟩ := info_parts info_ev
  have hrun : (Instr.alloc 60 true (.tuple #[])).run Try.prog w = .ok (.pointer (some ⟨w.heap.size, 0, none⟩)) (w.alloc (.cells #[.int .i64 0, .int .i64 0, .string ⟨#[]⟩, .string ⟨#[]⟩] 60)) := by
    simp [Instr.alloc, zeroValue, typeInfo, hi, hz, newVar, newRow, Value.cells]
  unfold Oper.wp execOp
  simp only [ho, Sem.run_bind, hrun, Result.andThen_ok]
  exact h
/-- What Get answers. -/
def GetQ (w : World) (b : List Int) (e : Ending) (w' : World) : Prop := e = .returned (.tuple #[evV ((getE b).getD zEv), .int .i64 (if (getE b).isSome then 0 else 2)]) ∧ Below w.heap.size w w'
def finE (f t : Int) (a c : List Int) (s4 : Option (List Int)) : Option Evn := match s4 with | some [] => if mayE (f, t, strOfNums a, strOfNums c) = true then some (f, t, strOfNums a, strOfNums c) else none | _ => none
theorem getE_some {f : Int} {r : List Int} {t : Int} {a c : List Int} {s2 s3 s4 : Option (List Int)} (h1 : countO (some r) 1099511627776 = (t, s2)) (h2 : textO s2 16 = (a, s3)) (h3 : textO s3 16 = (c, s4)) :
    getE (f :: r) = finE f t a c s4 := by
  unfold getE
  rw [show takeO (some (f :: r)) 1 = ([f], some r) from take_app [f] r]
  dsimp only
  rw [h1]
  dsimp only
  rw [h2]
  dsimp only
  rw [h3]
  cases s4 with
  | none => rfl
  | some r => cases r <;> rfl
set_option maxHeartbeats 8000000 in
set_option maxRecDepth 100000 in
theorem get_c (w : World) (A : Option Addr) (c : Nat) (b : List Int) (hr : Rb w A b) (hc : b.length ≤ c) (hl : b.length < 100000000) (hu : U8 b) :
    Calls Try.prog 93 #[.slice A b.length c] w (GetQ w b) := by
  have HB := Aside0.mk (below_alloc (Below.refl w.heap.size w) (.cells #[.int .i64 0, .int .i64 0, .string ⟨#[]⟩, .string ⟨#[]⟩] 60))
  have H0 := Aside0.mk (show Blk (w.alloc (.cells #[.int .i64 0, .int .i64 0, .string ⟨#[]⟩, .string ⟨#[]⟩] 60)) w.heap.size 60 #[.int .i64 0, .int .i64 0, .string ⟨#[]⟩, .string ⟨#[]⟩] from blk_new _ _)
  have HNEW := Aside0.mk (fun V (hV : Below w.heap.size w V) => newO A c b V (Kd.C_below hr hV) hc (by omega) hu)
  have hu60 := Try.underlying60
  have HU := Aside0.mk hu
  clear hr hc hl hu
  go_enter Try.func93, Try.ntmps93
  go_wp2_with (fail)
  refine (HNEW.out _ HB.out).mono ?_
  rintro e w1 ⟨g, rfl, hs, hb⟩
  have HS := Aside0.mk (RdO.lower hs HB.out.size)
  have HG := Aside0.mk (show w.heap.size < g from by have := hs.blk.1; have h2 := (show (w.alloc (.cells #[.int .i64 0, .int .i64 0, .string ⟨#[]⟩, .string ⟨#[]⟩] 60)).heap.size = w.heap.size + 1 by simp); omega)
  have HB1 := Aside0.mk (below_step HB.out hb)
  have H1 := Aside0.mk (H0.out.below hb)
  have HL1 := Aside0.mk (show Tlv.Left w w w1 g (some b) from ⟨HS.out, HB1.out, KeepBut.of_below HB1.out g none⟩)
  clear hs hb HNEW HB H0
  go_wp2_with (fail)
  cases b with
  | nil =>
    have HE := Aside0.mk (show getE [] = none from rfl)
    refine (takeO_ w _ g (some []) 1 HS.out HB1.out).mono ?_
    rintro e w2 ⟨v, rfl, ho, hl⟩
    obtain ⟨A5, c5, rfl⟩ := Kd.R_slice ho
    have H2 := Aside0.mk (H1.out.keep hl.2.2 (by have := HG.out; omega))
    have HB2 := Aside0.mk hl.2.1
    have HS2 := Aside0.mk (show RdO w w2 g none from hl.1)
    clear ho hl
    go_wp2_with (fail)
    refine (okO w _ g none HS2.out).mono ?_
    rintro e wk ⟨rfl, rfl⟩
    have z0 := H2.out.cell 0
    have z1 := H2.out.cell 1
    have z2 := H2.out.cell 2
    have z3 := H2.out.cell 3
    simp only [List.getElem?_toArray, List.getElem?_cons_zero, List.getElem?_cons_succ] at z0 z1 z2 z3
    have u0 := blk_frozen H2.out 0
    have u1 := blk_frozen H2.out 1
    have u2 := blk_frozen H2.out 2
    have u3 := blk_frozen H2.out 3
    go_wp2_with (fail)
    refine bodyPost_ret (results_ct rfl _ _ w.heap.size 60 #[.int .i64 0, .int .i64 0, .string ⟨#[]⟩, .string ⟨#[]⟩] (0, 0) _ rfl (set4 H2.out _ _ _ _) Try.underlying60 rfl (by kernel_rfl)) rfl ?_
    unfold GetQ
    rw [HE.out]
    exact ⟨rfl, below_set4 HB2.out (Nat.le_refl _) _ _ _ _⟩
  | cons f r =>
    obtain ⟨t, s2, hct⟩ : ∃ t s2, countO (some r) 1099511627776 = (t, s2) := ⟨_, _, rfl⟩
    obtain ⟨ta, s3, hta⟩ : ∃ t s, textO s2 16 = (t, s) := ⟨_, _, rfl⟩
    obtain ⟨tc, s4, htc⟩ : ∃ t s, textO s3 16 = (t, s) := ⟨_, _, rfl⟩
    have hwf : IntKind.i64.wrap f = f := by have h := HU.out.head; exact IntWalk.i64_in f ⟨by omega, by omega⟩
    have HE := Aside0.mk (getE_some (f := f) hct hta htc)
    have HCT := Aside0.mk hct
    have HT8 := Aside0.mk hta
    have HT9 := Aside0.mk htc
    have HTKE := Aside0.mk (show takeO (some (f :: r)) 1 = ([f], some r) from take_app [f] r)
    obtain ⟨b, hbb⟩ : ∃ b, f :: r = b := ⟨_, rfl⟩
    rw [hbb] at HS HL1 HTKE
    rw [hbb]
    clear hct hta htc hbb
    refine (takeO_ w _ g (some b) 1 HS.out HB1.out).mono ?_
    rintro e w2 ⟨v, rfl, ho, hl⟩
    rw [HTKE.out] at ho hl
    obtain ⟨A5, c5, rfl, _, hr5⟩ := Kd.R_reads ho
    obtain ⟨ad5, had, hc5⟩ := Rb.at0 hr5
    subst had
    have H2 := Aside0.mk (H1.out.keep hl.2.2 (by have := HG.out; omega))
    have HL2 := Aside0.mk (HL1.out.trans hl)
    have HF2 := Aside0.mk (show Rb w2 (some ad5) [f] from hr5)
    clear ho hl hr5 hc5
    go_wp2_with (fail)
    refine (okO w _ g (some r) HL2.out.1).mono ?_
    rintro e wk ⟨rfl, rfl⟩
    have hc5 := rb_cells HF2.out 0 _ rfl
    rw [show ad5.add 0 = ad5 from rfl] at hc5
    go_upto_region 5 with (fail)
    have HLd := Aside0.mk (left_below HL2.out (below_drew1 (Below.refl _ _)))
    have H2d := Aside0.mk (show Blk w2.drew w.heap.size 60 #[.int .i64 0, .int .i64 0, .string ⟨#[]⟩, .string ⟨#[]⟩] from H2.out)
    refine wp_region_held_drew (S := fun V => V.cell? ad5 = some (.int .u8 f)) (by kernel_rfl) (show w2.drew.cell? ad5 = some (.int .u8 f) from hc5) (fun hHeld => ?_)
    (refine wpAnyH_take (i := 0) (v := ?_) rfl (by kernel_rfl) (by kernel_rfl) (by kernel_rfl) (fun _ _ _ h => h) (Or.inl ⟨by rfl, ?_⟩) (by assumption) ?_; (case' refine_2 => (intro w hSw; go_simp; try with_reducible rfl)); (try simp only [Act.put, List.getElem_toArray, List.getElem_cons_zero, List.getElem_cons_succ, List.setIfInBounds_toArray, List.set_cons_zero, List.set_cons_succ]))
    (refine wpAnyH_take (i := 1) (v := ?_) rfl (by kernel_rfl) (by kernel_rfl) (by kernel_rfl) (fun _ _ _ h => h) (Or.inl ⟨by rfl, ?_⟩) (by assumption) ?_; (case' refine_2 => (intro w hSw; go_simp; try with_reducible rfl)); (try simp only [Act.put, List.getElem_toArray, List.getElem_cons_zero, List.getElem_cons_succ, List.setIfInBounds_toArray, List.set_cons_zero, List.set_cons_succ]))
    (refine wpAnyH_take (i := 2) (v := ?_) rfl (by kernel_rfl) (by kernel_rfl) (by kernel_rfl) (fun _ _ _ h => h) (Or.inl ⟨by rfl, ?_⟩) (by assumption) ?_; (case' refine_2 => (intro w hSw; go_simp; try with_reducible rfl)); (try simp only [Act.put, List.getElem_toArray, List.getElem_cons_zero, List.getElem_cons_succ, List.setIfInBounds_toArray, List.set_cons_zero, List.set_cons_succ]))
    (refine wpAnyH_take (i := 3) (v := ?_) rfl (by kernel_rfl) (by kernel_rfl) (by kernel_rfl) (fun _ _ _ h => h) (Or.inl ⟨by rfl, ?_⟩) (by assumption) ?_; (case' refine_2 => (intro w hSw; go_simp; try with_reducible rfl)); (try simp only [Act.put, List.getElem_toArray, List.getElem_cons_zero, List.getElem_cons_succ, List.setIfInBounds_toArray, List.set_cons_zero, List.set_cons_succ]))
    (refine wpAnyH_take (i := 4) (v := ?_) rfl (by kernel_rfl) (by kernel_rfl) (by kernel_rfl) (fun _ _ _ h => h) (Or.inl ⟨by rfl, ?_⟩) (by assumption) ?_; (case' refine_2 => (intro w hSw; go_simp; try with_reducible rfl)); (try simp only [Act.put, List.getElem_toArray, List.getElem_cons_zero, List.getElem_cons_succ, List.setIfInBounds_toArray, List.set_cons_zero, List.set_cons_succ]))
    refine wpAnyH_ready (rs := [5, 7]) (by kernel_rfl) (by simp) (AllReadyH.cons rfl (fun K hK => ?_) (AllReadyH.cons rfl (fun K hK => ?_) AllReadyH.nil))
    · go_simp
      refine (countO_ w _ g (some r) 1099511627776 HLd.out.1 HLd.out.2.1 (by decide)).mono ?_
      rintro e w5 ⟨rfl, hl⟩
      rw [HCT.out] at hl
      rw [HCT.out]
      have HL5 := Aside0.mk (HLd.out.trans hl)
      have H25 := Aside0.mk (H2d.out.keep hl.2.2 (by have := HG.out; omega))
      have HF5 := Aside0.mk (rb_step (Kd.C_drew HF2.out : Rb w2.drew (some ad5) [f]) HLd.out.1 hl.2.2)
      clear hl
      (refine Shut.out hK _ _ (rb_cells HF5.out 0 _ rfl) (fun hHeld => ?_); clear hK K; (try simp only [Act.put, List.getElem_toArray, List.getElem_cons_zero, List.getElem_cons_succ, List.setIfInBounds_toArray, List.set_cons_zero, List.set_cons_succ]))
      (refine wpAnyH_take (i := 6) (v := ?_) rfl (by kernel_rfl) (by kernel_rfl) (by kernel_rfl) (fun _ _ _ h => h) (Or.inl ⟨by rfl, ?_⟩) (by assumption) ?_; (case' refine_2 => (intro w hSw; go_simp; try with_reducible rfl)); (try simp only [Act.put, List.getElem_toArray, List.getElem_cons_zero, List.getElem_cons_succ, List.setIfInBounds_toArray, List.set_cons_zero, List.set_cons_succ]))
      refine wpAnyH_ready (rs := [7]) (by kernel_rfl) (by simp) (AllReadyH.cons rfl (fun K hK => ?_) AllReadyH.nil)
      rw [if_pos (by rfl)]
      refine wp_alloc_ev rfl ?_
      have hb := below_alloc (Below.refl w5.heap.size w5) (.cells #[.int .i64 0, .int .i64 0, .string ⟨#[]⟩, .string ⟨#[]⟩] 60)
      have HL6 := Aside0.mk (left_below HL5.out hb)
      have H26 := Aside0.mk (H25.out.below hb)
      have HF6 := Aside0.mk (show Rb (w5.alloc (.cells #[.int .i64 0, .int .i64 0, .string ⟨#[]⟩, .string ⟨#[]⟩] 60)) (some ad5) [f] from Kd.C_below HF5.out hb)
      have H66 := Aside0.mk (show Blk (w5.alloc (.cells #[.int .i64 0, .int .i64 0, .string ⟨#[]⟩, .string ⟨#[]⟩] 60)) w5.heap.size 60 #[.int .i64 0, .int .i64 0, .string ⟨#[]⟩, .string ⟨#[]⟩] from blk_new _ _)
      have HNN := Aside0.mk (show g < w5.heap.size from HL5.out.1.blk.2.1)
      have HFN := Aside0.mk (show ad5.block ≠ w5.heap.size from Nat.ne_of_lt (World.block_lt_of_cell? _ _ (show w5.cell? ad5 = some (.int .u8 f) from rb_cells HF5.out 0 _ rfl)))
      obtain ⟨w6, hw_⟩ : ∃ W_, w5.alloc (.cells #[.int .i64 0, .int .i64 0, .string ⟨#[]⟩, .string ⟨#[]⟩] 60) = W_ := ⟨_, rfl⟩
      obtain ⟨g6, hg_⟩ : ∃ W_, w5.heap.size = W_ := ⟨_, rfl⟩
      clear hb
      rw [hw_] at HL6 H26 HF6 H66
      rw [hg_] at H66 HNN HFN
      rw [hw_, hg_]
      clear hw_ hg_
      (refine Shut.out hK _ _ (rb_cells HF6.out 0 _ rfl) (fun hHeld => ?_); clear hK K; (try simp only [Act.put, List.getElem_toArray, List.getElem_cons_zero, List.getElem_cons_succ, List.setIfInBounds_toArray, List.set_cons_zero, List.set_cons_succ]))
      refine wpAnyH_ready (rs := [8]) (by kernel_rfl) (by simp) (AllReadyH.cons rfl (fun K hK => ?_) AllReadyH.nil)
      rw [if_pos (by rfl)]
      refine wp_store_row 60 (.tmp 6) (.tmp 21) rfl g6 #[.int .i64 f, .int .i64 t, .string ⟨#[]⟩, .string ⟨#[]⟩] rfl rfl 60 #[.int .i64 0, .int .i64 0, .string ⟨#[]⟩, .string ⟨#[]⟩] H66.out info_evS rfl (by simp [Value.oneCell']) ?_
      have hg := grown_setRow w6 g6 #[.int .i64 f, .int .i64 t, .string ⟨#[]⟩, .string ⟨#[]⟩]
      have HL7 := Aside0.mk (left_grown HL6.out (below_setRow (Below.refl _ _) (by have := HNN.out; have := HG.out; omega) _) hg (fun b e => by injection e with e; subst e; have := HNN.out; have := HG.out; exact ⟨by omega, by omega⟩) (Nat.le_refl _))
      have H27 := Aside0.mk (show Blk (w6.setRow g6 #[.int .i64 f, .int .i64 t, .string ⟨#[]⟩, .string ⟨#[]⟩]) w.heap.size 60 #[.int .i64 0, .int .i64 0, .string ⟨#[]⟩, .string ⟨#[]⟩] from (hg.block w.heap.size H26.out.lt (fun e => by injection e with e; have := HNN.out; have := HG.out; omega)).trans H26.out)
      have H67 := Aside0.mk (show Blk (w6.setRow g6 #[.int .i64 f, .int .i64 t, .string ⟨#[]⟩, .string ⟨#[]⟩]) g6 60 #[.int .i64 f, .int .i64 t, .string ⟨#[]⟩, .string ⟨#[]⟩] from setRow_heap w6 g6 #[.int .i64 0, .int .i64 0, .string ⟨#[]⟩, .string ⟨#[]⟩] #[.int .i64 f, .int .i64 t, .string ⟨#[]⟩, .string ⟨#[]⟩] _ _ H66.out)
      have HN6 := Aside0.mk (show g < g6 ∧ w.heap.size < g6 from by have := HNN.out; have := HG.out; exact ⟨by omega, by omega⟩)
      obtain ⟨w7, hw_⟩ : ∃ W_, w6.setRow g6 #[.int .i64 f, .int .i64 t, .string ⟨#[]⟩, .string ⟨#[]⟩] = W_ := ⟨_, rfl⟩
      have HF7 := Aside0.mk (rb_row HF6.out hg (fun ad e => by cases e; exact HFN.out))
      rw [hw_] at HL7 H27 H67 HF7
      rw [hw_]
      clear hw_ hg
      (refine Shut.out hK _ _ (rb_cells HF7.out 0 _ rfl) (fun hHeld => ?_); clear hK K; (try simp only [Act.put, List.getElem_toArray, List.getElem_cons_zero, List.getElem_cons_succ, List.setIfInBounds_toArray, List.set_cons_zero, List.set_cons_succ]))
      refine wpAnyH_done (by kernel_rfl) ?_ _
      clear hHeld
      go_wp2_with (fail)
      refine (textO_ w _ g s2 16 HL7.out.1 HL7.out.2.1 (by decide)).mono ?_
      rintro e w8 ⟨v, rfl, ho, hl⟩
      rw [HT8.out] at ho hl
      obtain ⟨A8, c8, rfl, hl8, hr8⟩ := Kd.R_reads ho
      have hcv := Kd.C_string (P := Try.prog) (c := c8) Try.underlying25 Try.underlying5 Try.underlying9 hr8
      have H6t := Aside0.mk (H67.out.keep hl.2.2 (by have := HN6.out; omega))
      have H2t := Aside0.mk (H27.out.keep hl.2.2 (by have := HG.out; omega))
      have HLt := Aside0.mk (HL7.out.trans hl)
      clear ho hl hl8 hr8
      have x0 := H6t.out.cell 0
      have x1 := H6t.out.cell 1
      have x2 := H6t.out.cell 2
      have x3 := H6t.out.cell 3
      simp only [List.getElem?_toArray, List.getElem?_cons_zero, List.getElem?_cons_succ] at x0 x1 x2 x3
      have y0 := blk_frozen H6t.out 0
      have y1 := blk_frozen H6t.out 1
      have y2 := blk_frozen H6t.out 2
      have y3 := blk_frozen H6t.out 3
      have hg := grown_setCell w8 g6 2 (.string (strOfNums ta))
      have HL8 := Aside0.mk (left_grown HLt.out (show Below w.heap.size w8 (w8.setCell ⟨g6, 2, none⟩ (.string (strOfNums ta))) from ⟨rfl, rfl, rfl, by simp [World.setCell], fun k hk => Below.heap_setCell w8 ⟨g6, 2, none⟩ (.string (strOfNums ta)) k (by have := HN6.out; dsimp only; omega)⟩) hg (fun b e => by injection e with e; subst e; have := HN6.out; exact ⟨by omega, by omega⟩) (Nat.le_refl _))
      have H28 := Aside0.mk (show Blk (w8.setCell ⟨g6, 2, none⟩ (.string (strOfNums ta))) w.heap.size 60 #[.int .i64 0, .int .i64 0, .string ⟨#[]⟩, .string ⟨#[]⟩] from (hg.block w.heap.size H2t.out.lt (fun e => by injection e with e; have := HN6.out; omega)).trans H2t.out)
      have H68 := Aside0.mk (show Blk (w8.setCell ⟨g6, 2, none⟩ (.string (strOfNums ta))) g6 60 #[.int .i64 f, .int .i64 t, .string (strOfNums ta), .string ⟨#[]⟩] from by have h := blk_set H6t.out 2 (.string (strOfNums ta)); simpa [Blk] using h)
      clear hg
      go_upto_region 7 with (fail)
      obtain ⟨w8b, hw_⟩ : ∃ W_, w8.setCell ⟨g6, 2, none⟩ (.string (strOfNums ta)) = W_ := ⟨_, rfl⟩
      rw [hw_] at HL8 H28 H68
      rw [hw_]
      clear hw_ hcv H6t H2t HLt x0 y0 x1 y1 x2 y2 x3 y3
      go_wp2_with (fail)
      refine (textO_ w _ g s3 16 HL8.out.1 HL8.out.2.1 (by decide)).mono ?_
      rintro e w9 ⟨v, rfl, ho, hl⟩
      rw [HT9.out] at ho hl
      obtain ⟨A9, c9, rfl, hl9, hr9⟩ := Kd.R_reads ho
      have hcv := Kd.C_string (P := Try.prog) (c := c9) Try.underlying25 Try.underlying5 Try.underlying9 hr9
      have H6t := Aside0.mk (H68.out.keep hl.2.2 (by have := HN6.out; omega))
      have H2t := Aside0.mk (H28.out.keep hl.2.2 (by have := HG.out; omega))
      have HLt := Aside0.mk (HL8.out.trans hl)
      clear ho hl hl9 hr9
      have x0 := H6t.out.cell 0
      have x1 := H6t.out.cell 1
      have x2 := H6t.out.cell 2
      have x3 := H6t.out.cell 3
      simp only [List.getElem?_toArray, List.getElem?_cons_zero, List.getElem?_cons_succ] at x0 x1 x2 x3
      have y0 := blk_frozen H6t.out 0
      have y1 := blk_frozen H6t.out 1
      have y2 := blk_frozen H6t.out 2
      have y3 := blk_frozen H6t.out 3
      have hg := grown_setCell w9 g6 3 (.string (strOfNums tc))
      have HL9 := Aside0.mk (left_grown HLt.out (show Below w.heap.size w9 (w9.setCell ⟨g6, 3, none⟩ (.string (strOfNums tc))) from ⟨rfl, rfl, rfl, by simp [World.setCell], fun k hk => Below.heap_setCell w9 ⟨g6, 3, none⟩ (.string (strOfNums tc)) k (by have := HN6.out; dsimp only; omega)⟩) hg (fun b e => by injection e with e; subst e; have := HN6.out; exact ⟨by omega, by omega⟩) (Nat.le_refl _))
      have H29 := Aside0.mk (show Blk (w9.setCell ⟨g6, 3, none⟩ (.string (strOfNums tc))) w.heap.size 60 #[.int .i64 0, .int .i64 0, .string ⟨#[]⟩, .string ⟨#[]⟩] from (hg.block w.heap.size H2t.out.lt (fun e => by injection e with e; have := HN6.out; omega)).trans H2t.out)
      have H69 := Aside0.mk (show Blk (w9.setCell ⟨g6, 3, none⟩ (.string (strOfNums tc))) g6 60 #[.int .i64 f, .int .i64 t, .string (strOfNums ta), .string (strOfNums tc)] from by have h := blk_set H6t.out 3 (.string (strOfNums tc)); simpa [Blk] using h)
      clear hg
      go_upto_region 8 with (fail)
      obtain ⟨w9b, hw_⟩ : ∃ W_, w9.setCell ⟨g6, 3, none⟩ (.string (strOfNums tc)) = W_ := ⟨_, rfl⟩
      rw [hw_] at HL9 H29 H69
      rw [hw_]
      clear hw_ hcv H6t H2t HLt x0 y0 x1 y1 x2 y2 x3 y3
      go_wp2_with (fail)
      refine (okO w _ g s4 HL9.out.1).mono ?_
      rintro e wk ⟨rfl, rfl⟩
      have z0 := H29.out.cell 0
      have z1 := H29.out.cell 1
      have z2 := H29.out.cell 2
      have z3 := H29.out.cell 3
      simp only [List.getElem?_toArray, List.getElem?_cons_zero, List.getElem?_cons_succ] at z0 z1 z2 z3
      have u0 := blk_frozen H29.out 0
      have u1 := blk_frozen H29.out 1
      have u2 := blk_frozen H29.out 2
      have u3 := blk_frozen H29.out 3
      have x0 := H69.out.cell 0
      have x1 := H69.out.cell 1
      have x2 := H69.out.cell 2
      have x3 := H69.out.cell 3
      simp only [List.getElem?_toArray, List.getElem?_cons_zero, List.getElem?_cons_succ] at x0 x1 x2 x3
      cases s4 with
      | none =>
        go_wp2_with (fail)
        refine bodyPost_ret (results_ct rfl _ _ w.heap.size 60 #[.int .i64 0, .int .i64 0, .string ⟨#[]⟩, .string ⟨#[]⟩] (0, 0) _ rfl (set4 H29.out _ _ _ _) Try.underlying60 rfl (by kernel_rfl)) rfl ?_
        unfold GetQ
        rw [HE.out]
        exact ⟨rfl, below_set4 HL9.out.2.1 (Nat.le_refl _) _ _ _ _⟩
      | some r4 =>
        cases r4 with
        | cons c0 r0 =>
          go_wp2_with (fail)
          refine (leftO_ w _ g (some (c0 :: r0)) HL9.out.1).mono ?_
          rintro e wk ⟨rfl, rfl⟩
          have p9 : (0 : Int) < leftO (some (c0 :: r0)) := by simp only [leftO, List.length_cons]; omega
          go_wp2_with (fail)
          refine bodyPost_ret (results_ct rfl _ _ w.heap.size 60 #[.int .i64 0, .int .i64 0, .string ⟨#[]⟩, .string ⟨#[]⟩] (0, 0) _ rfl (set4 H29.out _ _ _ _) Try.underlying60 rfl (by kernel_rfl)) rfl ?_
          unfold GetQ
          rw [HE.out]
          exact ⟨rfl, below_set4 HL9.out.2.1 (Nat.le_refl _) _ _ _ _⟩
        | nil =>
          go_wp2_with (fail)
          refine (leftO_ w _ g (some []) HL9.out.1).mono ?_
          rintro e wk ⟨rfl, rfl⟩
          have p9 : leftO (some []) = 0 := rfl
          rw [p9]
          have HCK := Aside0.mk (fun V => check_c (f, t, strOfNums ta, strOfNums tc) V)
          have HE := Aside0.mk (show getE (f :: r) = if mayE (f, t, strOfNums ta, strOfNums tc) = true then some (f, t, strOfNums ta, strOfNums tc) else none from HE.out)
          obtain ⟨mb, hmb⟩ : ∃ v, mayE (f, t, strOfNums ta, strOfNums tc) = v := ⟨_, rfl⟩
          rw [hmb] at HCK HE
          clear hmb
          go_wp2_with (fail)
          refine (HCK.out _).mono ?_
          rintro e wk ⟨rfl, hb⟩
          have H2k := Aside0.mk (H29.out.below hb)
          have H6k := Aside0.mk (H69.out.below hb)
          have HBk := Aside0.mk (below_step HL9.out.2.1 hb)
          clear hb z0 u0 x0 z1 u1 x1 z2 u2 x2 z3 u3 x3
          have z0 := H2k.out.cell 0
          have z1 := H2k.out.cell 1
          have z2 := H2k.out.cell 2
          have z3 := H2k.out.cell 3
          simp only [List.getElem?_toArray, List.getElem?_cons_zero, List.getElem?_cons_succ] at z0 z1 z2 z3
          have u0 := blk_frozen H2k.out 0
          have u1 := blk_frozen H2k.out 1
          have u2 := blk_frozen H2k.out 2
          have u3 := blk_frozen H2k.out 3
          have x0 := H6k.out.cell 0
          have x1 := H6k.out.cell 1
          have x2 := H6k.out.cell 2
          have x3 := H6k.out.cell 3
          simp only [List.getElem?_toArray, List.getElem?_cons_zero, List.getElem?_cons_succ] at x0 x1 x2 x3
          cases mb with
          | false =>
            rw [if_neg Bool.false_ne_true] at HE
            go_wp2_with (fail)
            refine bodyPost_ret (results_ct rfl _ _ w.heap.size 60 #[.int .i64 0, .int .i64 0, .string ⟨#[]⟩, .string ⟨#[]⟩] (0, 0) _ rfl (set4 H2k.out _ _ _ _) Try.underlying60 rfl (by kernel_rfl)) rfl ?_
            unfold GetQ
            rw [HE.out]
            exact ⟨rfl, below_set4 HBk.out (Nat.le_refl _) _ _ _ _⟩
          | true =>
            rw [if_pos rfl] at HE
            go_wp2_with (fail)
            refine bodyPost_ret (results_ct rfl _ _ w.heap.size 60 #[.int .i64 f, .int .i64 t, .string (strOfNums ta), .string (strOfNums tc)] (0, 0) _ rfl (set4 H2k.out _ _ _ _) Try.underlying60 rfl (by kernel_rfl)) rfl ?_
            unfold GetQ
            rw [HE.out]
            exact ⟨rfl, below_set4 HBk.out (Nat.le_refl _) _ _ _ _⟩
    · rw [if_pos (by rfl)]
      refine wp_alloc_ev rfl ?_
      have hb := below_alloc (Below.refl w2.drew.heap.size w2.drew) (.cells #[.int .i64 0, .int .i64 0, .string ⟨#[]⟩, .string ⟨#[]⟩] 60)
      have HL5 := Aside0.mk (left_below HLd.out hb)
      have H25 := Aside0.mk (H2d.out.below hb)
      have HF5 := Aside0.mk (show Rb (w2.drew.alloc (.cells #[.int .i64 0, .int .i64 0, .string ⟨#[]⟩, .string ⟨#[]⟩] 60)) (some ad5) [f] from Kd.C_below (Kd.C_drew HF2.out : Rb w2.drew (some ad5) [f]) hb)
      have H65 := Aside0.mk (show Blk (w2.drew.alloc (.cells #[.int .i64 0, .int .i64 0, .string ⟨#[]⟩, .string ⟨#[]⟩] 60)) w2.drew.heap.size 60 #[.int .i64 0, .int .i64 0, .string ⟨#[]⟩, .string ⟨#[]⟩] from blk_new _ _)
      have HNN := Aside0.mk (show g < w2.drew.heap.size from HLd.out.1.blk.2.1)
      have HFN := Aside0.mk (show ad5.block ≠ w2.drew.heap.size from Nat.ne_of_lt (World.block_lt_of_cell? _ _ (show w2.drew.cell? ad5 = some (.int .u8 f) from hc5)))
      obtain ⟨w5, hw_⟩ : ∃ W_, w2.drew.alloc (.cells #[.int .i64 0, .int .i64 0, .string ⟨#[]⟩, .string ⟨#[]⟩] 60) = W_ := ⟨_, rfl⟩
      obtain ⟨g6, hg_⟩ : ∃ W_, w2.drew.heap.size = W_ := ⟨_, rfl⟩
      clear hb
      rw [hw_] at HL5 H25 HF5 H65
      rw [hg_] at H65 HNN HFN
      rw [hw_, hg_]
      clear hw_ hg_
      (refine Shut.out hK _ _ (rb_cells HF5.out 0 _ rfl) (fun hHeld => ?_); clear hK K; (try simp only [Act.put, List.getElem_toArray, List.getElem_cons_zero, List.getElem_cons_succ, List.setIfInBounds_toArray, List.set_cons_zero, List.set_cons_succ]))
      (refine wpAnyH_ready (rs := [5]) (by kernel_rfl) (by simp) (AllReadyH.cons rfl (fun K hK => ?_) AllReadyH.nil); go_simp)
      refine (countO_ w _ g (some r) 1099511627776 HL5.out.1 HL5.out.2.1 (by decide)).mono ?_
      rintro e w6 ⟨rfl, hl⟩
      rw [HCT.out] at hl
      rw [HCT.out]
      have HL6 := Aside0.mk (HL5.out.trans hl)
      have H26 := Aside0.mk (H25.out.keep hl.2.2 (by have := HG.out; omega))
      have H66 := Aside0.mk (H65.out.keep hl.2.2 (by have := HNN.out; omega))
      have HF6 := Aside0.mk (rb_step HF5.out HL5.out.1 hl.2.2)
      clear hl
      (refine Shut.out hK _ _ (rb_cells HF6.out 0 _ rfl) (fun hHeld => ?_); clear hK K; (try simp only [Act.put, List.getElem_toArray, List.getElem_cons_zero, List.getElem_cons_succ, List.setIfInBounds_toArray, List.set_cons_zero, List.set_cons_succ]))
      (refine wpAnyH_take (i := 6) (v := ?_) rfl (by kernel_rfl) (by kernel_rfl) (by kernel_rfl) (fun _ _ _ h => h) (Or.inl ⟨by rfl, ?_⟩) (by assumption) ?_; (case' refine_2 => (intro w hSw; go_simp; try with_reducible rfl)); (try simp only [Act.put, List.getElem_toArray, List.getElem_cons_zero, List.getElem_cons_succ, List.setIfInBounds_toArray, List.set_cons_zero, List.set_cons_succ]))
      refine wpAnyH_ready (rs := [8]) (by kernel_rfl) (by simp) (AllReadyH.cons rfl (fun K hK => ?_) AllReadyH.nil)
      rw [if_pos (by rfl)]
      refine wp_store_row 60 (.tmp 6) (.tmp 21) rfl g6 #[.int .i64 f, .int .i64 t, .string ⟨#[]⟩, .string ⟨#[]⟩] rfl rfl 60 #[.int .i64 0, .int .i64 0, .string ⟨#[]⟩, .string ⟨#[]⟩] H66.out info_evS rfl (by simp [Value.oneCell']) ?_
      have hg := grown_setRow w6 g6 #[.int .i64 f, .int .i64 t, .string ⟨#[]⟩, .string ⟨#[]⟩]
      have HL7 := Aside0.mk (left_grown HL6.out (below_setRow (Below.refl _ _) (by have := HNN.out; have := HG.out; omega) _) hg (fun b e => by injection e with e; subst e; have := HNN.out; have := HG.out; exact ⟨by omega, by omega⟩) (Nat.le_refl _))
      have H27 := Aside0.mk (show Blk (w6.setRow g6 #[.int .i64 f, .int .i64 t, .string ⟨#[]⟩, .string ⟨#[]⟩]) w.heap.size 60 #[.int .i64 0, .int .i64 0, .string ⟨#[]⟩, .string ⟨#[]⟩] from (hg.block w.heap.size H26.out.lt (fun e => by injection e with e; have := HNN.out; have := HG.out; omega)).trans H26.out)
      have H67 := Aside0.mk (show Blk (w6.setRow g6 #[.int .i64 f, .int .i64 t, .string ⟨#[]⟩, .string ⟨#[]⟩]) g6 60 #[.int .i64 f, .int .i64 t, .string ⟨#[]⟩, .string ⟨#[]⟩] from setRow_heap w6 g6 #[.int .i64 0, .int .i64 0, .string ⟨#[]⟩, .string ⟨#[]⟩] #[.int .i64 f, .int .i64 t, .string ⟨#[]⟩, .string ⟨#[]⟩] _ _ H66.out)
      have HN6 := Aside0.mk (show g < g6 ∧ w.heap.size < g6 from by have := HNN.out; have := HG.out; exact ⟨by omega, by omega⟩)
      obtain ⟨w7, hw_⟩ : ∃ W_, w6.setRow g6 #[.int .i64 f, .int .i64 t, .string ⟨#[]⟩, .string ⟨#[]⟩] = W_ := ⟨_, rfl⟩
      have HF7 := Aside0.mk (rb_row HF6.out hg (fun ad e => by cases e; exact HFN.out))
      rw [hw_] at HL7 H27 H67 HF7
      rw [hw_]
      clear hw_ hg
      (refine Shut.out hK _ _ (rb_cells HF7.out 0 _ rfl) (fun hHeld => ?_); clear hK K; (try simp only [Act.put, List.getElem_toArray, List.getElem_cons_zero, List.getElem_cons_succ, List.setIfInBounds_toArray, List.set_cons_zero, List.set_cons_succ]))
      refine wpAnyH_done (by kernel_rfl) ?_ _
      clear hHeld
      go_wp2_with (fail)
      refine (textO_ w _ g s2 16 HL7.out.1 HL7.out.2.1 (by decide)).mono ?_
      rintro e w8 ⟨v, rfl, ho, hl⟩
      rw [HT8.out] at ho hl
      obtain ⟨A8, c8, rfl, hl8, hr8⟩ := Kd.R_reads ho
      have hcv := Kd.C_string (P := Try.prog) (c := c8) Try.underlying25 Try.underlying5 Try.underlying9 hr8
      have H6t := Aside0.mk (H67.out.keep hl.2.2 (by have := HN6.out; omega))
      have H2t := Aside0.mk (H27.out.keep hl.2.2 (by have := HG.out; omega))
      have HLt := Aside0.mk (HL7.out.trans hl)
      clear ho hl hl8 hr8
      have x0 := H6t.out.cell 0
      have x1 := H6t.out.cell 1
      have x2 := H6t.out.cell 2
      have x3 := H6t.out.cell 3
      simp only [List.getElem?_toArray, List.getElem?_cons_zero, List.getElem?_cons_succ] at x0 x1 x2 x3
      have y0 := blk_frozen H6t.out 0
      have y1 := blk_frozen H6t.out 1
      have y2 := blk_frozen H6t.out 2
      have y3 := blk_frozen H6t.out 3
      have hg := grown_setCell w8 g6 2 (.string (strOfNums ta))
      have HL8 := Aside0.mk (left_grown HLt.out (show Below w.heap.size w8 (w8.setCell ⟨g6, 2, none⟩ (.string (strOfNums ta))) from ⟨rfl, rfl, rfl, by simp [World.setCell], fun k hk => Below.heap_setCell w8 ⟨g6, 2, none⟩ (.string (strOfNums ta)) k (by have := HN6.out; dsimp only; omega)⟩) hg (fun b e => by injection e with e; subst e; have := HN6.out; exact ⟨by omega, by omega⟩) (Nat.le_refl _))
      have H28 := Aside0.mk (show Blk (w8.setCell ⟨g6, 2, none⟩ (.string (strOfNums ta))) w.heap.size 60 #[.int .i64 0, .int .i64 0, .string ⟨#[]⟩, .string ⟨#[]⟩] from (hg.block w.heap.size H2t.out.lt (fun e => by injection e with e; have := HN6.out; omega)).trans H2t.out)
      have H68 := Aside0.mk (show Blk (w8.setCell ⟨g6, 2, none⟩ (.string (strOfNums ta))) g6 60 #[.int .i64 f, .int .i64 t, .string (strOfNums ta), .string ⟨#[]⟩] from by have h := blk_set H6t.out 2 (.string (strOfNums ta)); simpa [Blk] using h)
      clear hg
      go_upto_region 7 with (fail)
      obtain ⟨w8b, hw_⟩ : ∃ W_, w8.setCell ⟨g6, 2, none⟩ (.string (strOfNums ta)) = W_ := ⟨_, rfl⟩
      rw [hw_] at HL8 H28 H68
      rw [hw_]
      clear hw_ hcv H6t H2t HLt x0 y0 x1 y1 x2 y2 x3 y3
      go_wp2_with (fail)
      refine (textO_ w _ g s3 16 HL8.out.1 HL8.out.2.1 (by decide)).mono ?_
      rintro e w9 ⟨v, rfl, ho, hl⟩
      rw [HT9.out] at ho hl
      obtain ⟨A9, c9, rfl, hl9, hr9⟩ := Kd.R_reads ho
      have hcv := Kd.C_string (P := Try.prog) (c := c9) Try.underlying25 Try.underlying5 Try.underlying9 hr9
      have H6t := Aside0.mk (H68.out.keep hl.2.2 (by have := HN6.out; omega))
      have H2t := Aside0.mk (H28.out.keep hl.2.2 (by have := HG.out; omega))
      have HLt := Aside0.mk (HL8.out.trans hl)
      clear ho hl hl9 hr9
      have x0 := H6t.out.cell 0
      have x1 := H6t.out.cell 1
      have x2 := H6t.out.cell 2
      have x3 := H6t.out.cell 3
      simp only [List.getElem?_toArray, List.getElem?_cons_zero, List.getElem?_cons_succ] at x0 x1 x2 x3
      have y0 := blk_frozen H6t.out 0
      have y1 := blk_frozen H6t.out 1
      have y2 := blk_frozen H6t.out 2
      have y3 := blk_frozen H6t.out 3
      have hg := grown_setCell w9 g6 3 (.string (strOfNums tc))
      have HL9 := Aside0.mk (left_grown HLt.out (show Below w.heap.size w9 (w9.setCell ⟨g6, 3, none⟩ (.string (strOfNums tc))) from ⟨rfl, rfl, rfl, by simp [World.setCell], fun k hk => Below.heap_setCell w9 ⟨g6, 3, none⟩ (.string (strOfNums tc)) k (by have := HN6.out; dsimp only; omega)⟩) hg (fun b e => by injection e with e; subst e; have := HN6.out; exact ⟨by omega, by omega⟩) (Nat.le_refl _))
      have H29 := Aside0.mk (show Blk (w9.setCell ⟨g6, 3, none⟩ (.string (strOfNums tc))) w.heap.size 60 #[.int .i64 0, .int .i64 0, .string ⟨#[]⟩, .string ⟨#[]⟩] from (hg.block w.heap.size H2t.out.lt (fun e => by injection e with e; have := HN6.out; omega)).trans H2t.out)
      have H69 := Aside0.mk (show Blk (w9.setCell ⟨g6, 3, none⟩ (.string (strOfNums tc))) g6 60 #[.int .i64 f, .int .i64 t, .string (strOfNums ta), .string (strOfNums tc)] from by have h := blk_set H6t.out 3 (.string (strOfNums tc)); simpa [Blk] using h)
      clear hg
      go_upto_region 8 with (fail)
      obtain ⟨w9b, hw_⟩ : ∃ W_, w9.setCell ⟨g6, 3, none⟩ (.string (strOfNums tc)) = W_ := ⟨_, rfl⟩
      rw [hw_] at HL9 H29 H69
      rw [hw_]
      clear hw_ hcv H6t H2t HLt x0 y0 x1 y1 x2 y2 x3 y3
      go_wp2_with (fail)
      refine (okO w _ g s4 HL9.out.1).mono ?_
      rintro e wk ⟨rfl, rfl⟩
      have z0 := H29.out.cell 0
      have z1 := H29.out.cell 1
      have z2 := H29.out.cell 2
      have z3 := H29.out.cell 3
      simp only [List.getElem?_toArray, List.getElem?_cons_zero, List.getElem?_cons_succ] at z0 z1 z2 z3
      have u0 := blk_frozen H29.out 0
      have u1 := blk_frozen H29.out 1
      have u2 := blk_frozen H29.out 2
      have u3 := blk_frozen H29.out 3
      have x0 := H69.out.cell 0
      have x1 := H69.out.cell 1
      have x2 := H69.out.cell 2
      have x3 := H69.out.cell 3
      simp only [List.getElem?_toArray, List.getElem?_cons_zero, List.getElem?_cons_succ] at x0 x1 x2 x3
      cases s4 with
      | none =>
        go_wp2_with (fail)
        refine bodyPost_ret (results_ct rfl _ _ w.heap.size 60 #[.int .i64 0, .int .i64 0, .string ⟨#[]⟩, .string ⟨#[]⟩] (0, 0) _ rfl (set4 H29.out _ _ _ _) Try.underlying60 rfl (by kernel_rfl)) rfl ?_
        unfold GetQ
        rw [HE.out]
        exact ⟨rfl, below_set4 HL9.out.2.1 (Nat.le_refl _) _ _ _ _⟩
      | some r4 =>
        cases r4 with
        | cons c0 r0 =>
          go_wp2_with (fail)
          refine (leftO_ w _ g (some (c0 :: r0)) HL9.out.1).mono ?_
          rintro e wk ⟨rfl, rfl⟩
          have p9 : (0 : Int) < leftO (some (c0 :: r0)) := by simp only [leftO, List.length_cons]; omega
          go_wp2_with (fail)
          refine bodyPost_ret (results_ct rfl _ _ w.heap.size 60 #[.int .i64 0, .int .i64 0, .string ⟨#[]⟩, .string ⟨#[]⟩] (0, 0) _ rfl (set4 H29.out _ _ _ _) Try.underlying60 rfl (by kernel_rfl)) rfl ?_
          unfold GetQ
          rw [HE.out]
          exact ⟨rfl, below_set4 HL9.out.2.1 (Nat.le_refl _) _ _ _ _⟩
        | nil =>
          go_wp2_with (fail)
          refine (leftO_ w _ g (some []) HL9.out.1).mono ?_
          rintro e wk ⟨rfl, rfl⟩
          have p9 : leftO (some []) = 0 := rfl
          rw [p9]
          have HCK := Aside0.mk (fun V => check_c (f, t, strOfNums ta, strOfNums tc) V)
          have HE := Aside0.mk (show getE (f :: r) = if mayE (f, t, strOfNums ta, strOfNums tc) = true then some (f, t, strOfNums ta, strOfNums tc) else none from HE.out)
          obtain ⟨mb, hmb⟩ : ∃ v, mayE (f, t, strOfNums ta, strOfNums tc) = v := ⟨_, rfl⟩
          rw [hmb] at HCK HE
          clear hmb
          go_wp2_with (fail)
          refine (HCK.out _).mono ?_
          rintro e wk ⟨rfl, hb⟩
          have H2k := Aside0.mk (H29.out.below hb)
          have H6k := Aside0.mk (H69.out.below hb)
          have HBk := Aside0.mk (below_step HL9.out.2.1 hb)
          clear hb z0 u0 x0 z1 u1 x1 z2 u2 x2 z3 u3 x3
          have z0 := H2k.out.cell 0
          have z1 := H2k.out.cell 1
          have z2 := H2k.out.cell 2
          have z3 := H2k.out.cell 3
          simp only [List.getElem?_toArray, List.getElem?_cons_zero, List.getElem?_cons_succ] at z0 z1 z2 z3
          have u0 := blk_frozen H2k.out 0
          have u1 := blk_frozen H2k.out 1
          have u2 := blk_frozen H2k.out 2
          have u3 := blk_frozen H2k.out 3
          have x0 := H6k.out.cell 0
          have x1 := H6k.out.cell 1
          have x2 := H6k.out.cell 2
          have x3 := H6k.out.cell 3
          simp only [List.getElem?_toArray, List.getElem?_cons_zero, List.getElem?_cons_succ] at x0 x1 x2 x3
          cases mb with
          | false =>
            rw [if_neg Bool.false_ne_true] at HE
            go_wp2_with (fail)
            refine bodyPost_ret (results_ct rfl _ _ w.heap.size 60 #[.int .i64 0, .int .i64 0, .string ⟨#[]⟩, .string ⟨#[]⟩] (0, 0) _ rfl (set4 H2k.out _ _ _ _) Try.underlying60 rfl (by kernel_rfl)) rfl ?_
            unfold GetQ
            rw [HE.out]
            exact ⟨rfl, below_set4 HBk.out (Nat.le_refl _) _ _ _ _⟩
          | true =>
            rw [if_pos rfl] at HE
            go_wp2_with (fail)
            refine bodyPost_ret (results_ct rfl _ _ w.heap.size 60 #[.int .i64 f, .int .i64 t, .string (strOfNums ta), .string (strOfNums tc)] (0, 0) _ rfl (set4 H2k.out _ _ _ _) Try.underlying60 rfl (by kernel_rfl)) rfl ?_
            unfold GetQ
            rw [HE.out]
            exact ⟨rfl, below_set4 HBk.out (Nat.le_refl _) _ _ _ _⟩
end Go.Proofs.Ytfpkgdenohcglaa.Evt
/- The document's Get (events) walked (printed by gen_evtrget.py). -/
namespace Go.Proofs.Ytfpkgdenohcglaa.Evt
set_option linter.unusedVariables false
set_option linter.unusedSimpArgs false
open Go.RowKit Go.Proofs.Ytfpkgdenohcglaa.Base Go.Proofs.Ytfpkgdenohcglaa.TlvPlain Go.Proofs.Ytfpkgdenohcglaa.Lo Go.Proofs.Ytfpkgdenohcglaa.RdPlain Go.Proofs.Ytfpkgdenohcglaa.Aid Go.Proofs.Ytfpkgdenohcglaa.Chn Go.Proofs.YtfpkgdenohcglaaW.PrintWords Go.Proofs.YtfpkgdenohcglaaW.PrintLast Go.Proofs.YtfpkgdenohcglaaW.PrintMore
open Rf (RfO takeO_ countO_ textO_)
set_option maxHeartbeats 8000000 in
set_option maxRecDepth 100000 in
theorem rget_c (w : World) (A : Option Addr) (c : Nat) (b : List Int) (hr : Rb w A b) (hc : b.length ≤ c) (hl : b.length < 100000000) (hu : U8 b) :
    Calls Try.prog 38 #[.slice A b.length c] w (GetQ w b) := by
  have HB := Aside0.mk (below_alloc (Below.refl w.heap.size w) (.cells #[.int .i64 0, .int .i64 0, .string ⟨#[]⟩, .string ⟨#[]⟩] 60))
  have H0 := Aside0.mk (show Blk (w.alloc (.cells #[.int .i64 0, .int .i64 0, .string ⟨#[]⟩, .string ⟨#[]⟩] 60)) w.heap.size 60 #[.int .i64 0, .int .i64 0, .string ⟨#[]⟩, .string ⟨#[]⟩] from blk_new _ _)
  have HNEW := Aside0.mk (fun V (hV : Below w.heap.size w V) => copy_c A c b V (Kd.C_below hr hV) hc (by omega))
  have hu60 := Try.underlying60
  have hu102 := Try.underlying102
  have HU := Aside0.mk hu
  have HLN := Aside0.mk hl
  clear hr hc hl hu
  go_enter Try.func38, Try.ntmps38
  go_wp2_with (fail)
  refine (HNEW.out _ HB.out).mono ?_
  rintro e w5 ⟨v, rfl, ho, hb⟩
  obtain ⟨A5, c5, rfl, hl5, hr5⟩ := Ob.reads ho
  have HB0 := Aside0.mk (below_step HB.out hb)
  have HS := Aside0.mk (show RfO w (w5.alloc (.cells #[.slice A5 b.length c5, .bool false] 102)) w5.heap.size (some b) from ⟨HB0.out.size, A5, c5, blk_new _ _, hl5, Kd.C_alloc hr5 _, (by have := HLN.out; omega), HU.out, fun ad e => Kd.R_lt ho ad.block (by rw [e]; rfl)⟩)
  have HB1 := Aside0.mk (below_alloc HB0.out (.cells #[.slice A5 b.length c5, .bool false] 102))
  have H1 := Aside0.mk ((H0.out.below hb).below (below_alloc (Below.refl _ _) (.cells #[.slice A5 b.length c5, .bool false] 102)))
  have HG := Aside0.mk (show w.heap.size < w5.heap.size from (H0.out.below hb).lt)
  clear ho hb hl5 hr5 HNEW HB H0
  go_upto_region 2 with (fail)
  obtain ⟨w1, hw1⟩ : ∃ x, w5.alloc (.cells #[.slice A5 b.length c5, .bool false] 102) = x := ⟨_, rfl⟩
  obtain ⟨g, hg⟩ : ∃ x, w5.heap.size = x := ⟨_, rfl⟩
  rw [hw1, hg] at HS
  rw [hw1] at HB1 H1
  rw [hg] at HG
  rw [hw1, hg]
  clear hw1 hg HB0
  have HL1 := Aside0.mk (show Rf.Left w w w1 g (some b) from ⟨HS.out, HB1.out, KeepBut.of_below HB1.out g none⟩)
  go_wp2_with (fail)
  cases b with
  | nil =>
    have HE := Aside0.mk (show getE [] = none from rfl)
    refine (takeO_ w _ g (some []) 1 HS.out HB1.out).mono ?_
    rintro e w2 ⟨v, rfl, ho, hl⟩
    obtain ⟨A5, c5, rfl⟩ := Kd.R_slice ho
    have H2 := Aside0.mk (H1.out.keep hl.2.2 (by have := HG.out; omega))
    have HB2 := Aside0.mk hl.2.1
    have HS2 := Aside0.mk (show RfO w w2 g none from hl.1)
    clear ho hl
    have z0 := H2.out.cell 0
    have z1 := H2.out.cell 1
    have z2 := H2.out.cell 2
    have z3 := H2.out.cell 3
    simp only [List.getElem?_toArray, List.getElem?_cons_zero, List.getElem?_cons_succ] at z0 z1 z2 z3
    have u0 := blk_frozen H2.out 0
    have u1 := blk_frozen H2.out 1
    have u2 := blk_frozen H2.out 2
    have u3 := blk_frozen H2.out 3
    have hf1 := HS2.out.fail.1
    have hf2 := HS2.out.fail.2
    simp only [Option.isSome_none, Bool.not_false] at hf1
    go_wp2_with (fail)
    refine bodyPost_ret (results_ct rfl _ _ w.heap.size 60 #[.int .i64 0, .int .i64 0, .string ⟨#[]⟩, .string ⟨#[]⟩] (0, 0) _ rfl (set4 H2.out _ _ _ _) Try.underlying60 rfl (by kernel_rfl)) rfl ?_
    unfold GetQ
    rw [HE.out]
    exact ⟨rfl, below_set4 HB2.out (Nat.le_refl _) _ _ _ _⟩
  | cons f r =>
    obtain ⟨t, s2, hct⟩ : ∃ t s2, countO (some r) 1099511627776 = (t, s2) := ⟨_, _, rfl⟩
    obtain ⟨ta, s3, hta⟩ : ∃ t s, textO s2 16 = (t, s) := ⟨_, _, rfl⟩
    obtain ⟨tc, s4, htc⟩ : ∃ t s, textO s3 16 = (t, s) := ⟨_, _, rfl⟩
    have hwf : IntKind.i64.wrap f = f := by have h := HU.out.head; exact IntWalk.i64_in f ⟨by omega, by omega⟩
    have HSZ := Aside0.mk (show (strOfNums ta).size ≤ 4611686018427387904 ∧ (strOfNums tc).size ≤ 4611686018427387904 from by
      have h1 := textO_le (st := s2) (m := 16) (by decide)
      have h2 := textO_le (st := s3) (m := 16) (by decide)
      rw [hta] at h1
      rw [htc] at h2
      dsimp only at h1 h2
      rw [strOfNums_size, strOfNums_size]
      exact ⟨by omega, by omega⟩)
    have HE := Aside0.mk (getE_some (f := f) hct hta htc)
    have HCT := Aside0.mk hct
    have HT8 := Aside0.mk hta
    have HT9 := Aside0.mk htc
    have HTKE := Aside0.mk (show takeO (some (f :: r)) 1 = ([f], some r) from take_app [f] r)
    obtain ⟨b, hbb⟩ : ∃ b, f :: r = b := ⟨_, rfl⟩
    rw [hbb] at HS HL1 HTKE
    rw [hbb]
    clear hct hta htc hbb
    refine (takeO_ w _ g (some b) 1 HS.out HB1.out).mono ?_
    rintro e w2 ⟨v, rfl, ho, hl⟩
    rw [HTKE.out] at ho hl
    obtain ⟨A5, c5, rfl, _, hr5⟩ := Kd.R_reads ho
    obtain ⟨ad5, had, hc5⟩ := Rb.at0 hr5
    subst had
    have H2 := Aside0.mk (H1.out.keep hl.2.2 (by have := HG.out; omega))
    have HL2 := Aside0.mk (HL1.out.trans hl)
    have HF2 := Aside0.mk (show Rb w2 (some ad5) [f] from hr5)
    clear ho hl hr5 hc5
    have hf1 := HL2.out.1.fail.1
    have hf2 := HL2.out.1.fail.2
    simp only [Option.isSome_some, Bool.not_true] at hf1
    have hc5 := rb_cells HF2.out 0 _ rfl
    rw [show ad5.add 0 = ad5 from rfl] at hc5
    go_upto_region 5 with (fail)
    clear hf1 hf2
    have HLd := Aside0.mk (rleft_below HL2.out (below_drew1 (Below.refl _ _)))
    have H2d := Aside0.mk (show Blk w2.drew w.heap.size 60 #[.int .i64 0, .int .i64 0, .string ⟨#[]⟩, .string ⟨#[]⟩] from H2.out)
    refine wp_region_held_drew (S := fun V => V.cell? ad5 = some (.int .u8 f)) (by kernel_rfl) (show w2.drew.cell? ad5 = some (.int .u8 f) from hc5) (fun hHeld => ?_)
    (refine wpAnyH_take (i := 0) (v := ?_) rfl (by kernel_rfl) (by kernel_rfl) (by kernel_rfl) (fun _ _ _ h => h) (Or.inl ⟨by rfl, ?_⟩) (by assumption) ?_; (case' refine_2 => (intro w hSw; go_simp; try with_reducible rfl)); (try simp only [Act.put, List.getElem_toArray, List.getElem_cons_zero, List.getElem_cons_succ, List.setIfInBounds_toArray, List.set_cons_zero, List.set_cons_succ]))
    (refine wpAnyH_take (i := 1) (v := ?_) rfl (by kernel_rfl) (by kernel_rfl) (by kernel_rfl) (fun _ _ _ h => h) (Or.inl ⟨by rfl, ?_⟩) (by assumption) ?_; (case' refine_2 => (intro w hSw; go_simp; try with_reducible rfl)); (try simp only [Act.put, List.getElem_toArray, List.getElem_cons_zero, List.getElem_cons_succ, List.setIfInBounds_toArray, List.set_cons_zero, List.set_cons_succ]))
    (refine wpAnyH_take (i := 2) (v := ?_) rfl (by kernel_rfl) (by kernel_rfl) (by kernel_rfl) (fun _ _ _ h => h) (Or.inl ⟨by rfl, ?_⟩) (by assumption) ?_; (case' refine_2 => (intro w hSw; go_simp; try with_reducible rfl)); (try simp only [Act.put, List.getElem_toArray, List.getElem_cons_zero, List.getElem_cons_succ, List.setIfInBounds_toArray, List.set_cons_zero, List.set_cons_succ]))
    (refine wpAnyH_take (i := 3) (v := ?_) rfl (by kernel_rfl) (by kernel_rfl) (by kernel_rfl) (fun _ _ _ h => h) (Or.inl ⟨by rfl, ?_⟩) (by assumption) ?_; (case' refine_2 => (intro w hSw; go_simp; try with_reducible rfl)); (try simp only [Act.put, List.getElem_toArray, List.getElem_cons_zero, List.getElem_cons_succ, List.setIfInBounds_toArray, List.set_cons_zero, List.set_cons_succ]))
    (refine wpAnyH_take (i := 4) (v := ?_) rfl (by kernel_rfl) (by kernel_rfl) (by kernel_rfl) (fun _ _ _ h => h) (Or.inl ⟨by rfl, ?_⟩) (by assumption) ?_; (case' refine_2 => (intro w hSw; go_simp; try with_reducible rfl)); (try simp only [Act.put, List.getElem_toArray, List.getElem_cons_zero, List.getElem_cons_succ, List.setIfInBounds_toArray, List.set_cons_zero, List.set_cons_succ]))
    refine wpAnyH_ready (rs := [5, 7]) (by kernel_rfl) (by simp) (AllReadyH.cons rfl (fun K hK => ?_) (AllReadyH.cons rfl (fun K hK => ?_) AllReadyH.nil))
    · go_simp
      refine (countO_ w _ g (some r) 1099511627776 HLd.out.1 HLd.out.2.1 (by decide)).mono ?_
      rintro e w5 ⟨rfl, hl⟩
      rw [HCT.out] at hl
      rw [HCT.out]
      have HL5 := Aside0.mk (HLd.out.trans hl)
      have H25 := Aside0.mk (H2d.out.keep hl.2.2 (by have := HG.out; omega))
      have HF5 := Aside0.mk (rrb_step (Kd.C_drew HF2.out : Rb w2.drew (some ad5) [f]) HLd.out.1 hl.2.2)
      clear hl
      (refine Shut.out hK _ _ (rb_cells HF5.out 0 _ rfl) (fun hHeld => ?_); clear hK K; (try simp only [Act.put, List.getElem_toArray, List.getElem_cons_zero, List.getElem_cons_succ, List.setIfInBounds_toArray, List.set_cons_zero, List.set_cons_succ]))
      (refine wpAnyH_take (i := 6) (v := ?_) rfl (by kernel_rfl) (by kernel_rfl) (by kernel_rfl) (fun _ _ _ h => h) (Or.inl ⟨by rfl, ?_⟩) (by assumption) ?_; (case' refine_2 => (intro w hSw; go_simp; try with_reducible rfl)); (try simp only [Act.put, List.getElem_toArray, List.getElem_cons_zero, List.getElem_cons_succ, List.setIfInBounds_toArray, List.set_cons_zero, List.set_cons_succ]))
      refine wpAnyH_ready (rs := [7]) (by kernel_rfl) (by simp) (AllReadyH.cons rfl (fun K hK => ?_) AllReadyH.nil)
      rw [if_pos (by rfl)]
      refine wp_alloc_ev rfl ?_
      have hb := below_alloc (Below.refl w5.heap.size w5) (.cells #[.int .i64 0, .int .i64 0, .string ⟨#[]⟩, .string ⟨#[]⟩] 60)
      have HL6 := Aside0.mk (rleft_below HL5.out hb)
      have H26 := Aside0.mk (H25.out.below hb)
      have HF6 := Aside0.mk (show Rb (w5.alloc (.cells #[.int .i64 0, .int .i64 0, .string ⟨#[]⟩, .string ⟨#[]⟩] 60)) (some ad5) [f] from Kd.C_below HF5.out hb)
      have H66 := Aside0.mk (show Blk (w5.alloc (.cells #[.int .i64 0, .int .i64 0, .string ⟨#[]⟩, .string ⟨#[]⟩] 60)) w5.heap.size 60 #[.int .i64 0, .int .i64 0, .string ⟨#[]⟩, .string ⟨#[]⟩] from blk_new _ _)
      have HNN := Aside0.mk (show g < w5.heap.size from HL5.out.1.blk.2.1)
      have HFN := Aside0.mk (show ad5.block ≠ w5.heap.size from Nat.ne_of_lt (World.block_lt_of_cell? _ _ (show w5.cell? ad5 = some (.int .u8 f) from rb_cells HF5.out 0 _ rfl)))
      obtain ⟨w6, hw_⟩ : ∃ W_, w5.alloc (.cells #[.int .i64 0, .int .i64 0, .string ⟨#[]⟩, .string ⟨#[]⟩] 60) = W_ := ⟨_, rfl⟩
      obtain ⟨g6, hg_⟩ : ∃ W_, w5.heap.size = W_ := ⟨_, rfl⟩
      clear hb
      rw [hw_] at HL6 H26 HF6 H66
      rw [hg_] at H66 HNN HFN
      rw [hw_, hg_]
      clear hw_ hg_
      (refine Shut.out hK _ _ (rb_cells HF6.out 0 _ rfl) (fun hHeld => ?_); clear hK K; (try simp only [Act.put, List.getElem_toArray, List.getElem_cons_zero, List.getElem_cons_succ, List.setIfInBounds_toArray, List.set_cons_zero, List.set_cons_succ]))
      refine wpAnyH_ready (rs := [8]) (by kernel_rfl) (by simp) (AllReadyH.cons rfl (fun K hK => ?_) AllReadyH.nil)
      rw [if_pos (by rfl)]
      refine wp_store_row 60 (.tmp 6) (.tmp 24) rfl g6 #[.int .i64 f, .int .i64 t, .string ⟨#[]⟩, .string ⟨#[]⟩] rfl rfl 60 #[.int .i64 0, .int .i64 0, .string ⟨#[]⟩, .string ⟨#[]⟩] H66.out info_evS rfl (by simp [Value.oneCell']) ?_
      have hg := grown_setRow w6 g6 #[.int .i64 f, .int .i64 t, .string ⟨#[]⟩, .string ⟨#[]⟩]
      have HL7 := Aside0.mk (rleft_grown HL6.out (below_setRow (Below.refl _ _) (by have := HNN.out; have := HG.out; omega) _) hg (fun b e => by injection e with e; subst e; have := HNN.out; have := HG.out; exact ⟨by omega, by omega⟩) (Nat.le_refl _))
      have H27 := Aside0.mk (show Blk (w6.setRow g6 #[.int .i64 f, .int .i64 t, .string ⟨#[]⟩, .string ⟨#[]⟩]) w.heap.size 60 #[.int .i64 0, .int .i64 0, .string ⟨#[]⟩, .string ⟨#[]⟩] from (hg.block w.heap.size H26.out.lt (fun e => by injection e with e; have := HNN.out; have := HG.out; omega)).trans H26.out)
      have H67 := Aside0.mk (show Blk (w6.setRow g6 #[.int .i64 f, .int .i64 t, .string ⟨#[]⟩, .string ⟨#[]⟩]) g6 60 #[.int .i64 f, .int .i64 t, .string ⟨#[]⟩, .string ⟨#[]⟩] from setRow_heap w6 g6 #[.int .i64 0, .int .i64 0, .string ⟨#[]⟩, .string ⟨#[]⟩] #[.int .i64 f, .int .i64 t, .string ⟨#[]⟩, .string ⟨#[]⟩] _ _ H66.out)
      have HN6 := Aside0.mk (show g < g6 ∧ w.heap.size < g6 from by have := HNN.out; have := HG.out; exact ⟨by omega, by omega⟩)
      obtain ⟨w7, hw_⟩ : ∃ W_, w6.setRow g6 #[.int .i64 f, .int .i64 t, .string ⟨#[]⟩, .string ⟨#[]⟩] = W_ := ⟨_, rfl⟩
      have HF7 := Aside0.mk (rb_row HF6.out hg (fun ad e => by cases e; exact HFN.out))
      rw [hw_] at HL7 H27 H67 HF7
      rw [hw_]
      clear hw_ hg
      (refine Shut.out hK _ _ (rb_cells HF7.out 0 _ rfl) (fun hHeld => ?_); clear hK K; (try simp only [Act.put, List.getElem_toArray, List.getElem_cons_zero, List.getElem_cons_succ, List.setIfInBounds_toArray, List.set_cons_zero, List.set_cons_succ]))
      refine wpAnyH_done (by kernel_rfl) ?_ _
      clear hHeld
      go_wp2_with (fail)
      refine (textO_ w _ g s2 16 HL7.out.1 HL7.out.2.1 (by decide)).mono ?_
      rintro e w8 ⟨v, rfl, ho, hl⟩
      rw [HT8.out] at ho hl
      obtain ⟨A8, c8, rfl, hl8, hr8⟩ := Kd.R_reads ho
      have hcv := Kd.C_string (P := Try.prog) (c := c8) Try.underlying25 Try.underlying5 Try.underlying9 hr8
      have H6t := Aside0.mk (H67.out.keep hl.2.2 (by have := HN6.out; omega))
      have H2t := Aside0.mk (H27.out.keep hl.2.2 (by have := HG.out; omega))
      have HLt := Aside0.mk (HL7.out.trans hl)
      clear ho hl hl8 hr8
      have x0 := H6t.out.cell 0
      have x1 := H6t.out.cell 1
      have x2 := H6t.out.cell 2
      have x3 := H6t.out.cell 3
      simp only [List.getElem?_toArray, List.getElem?_cons_zero, List.getElem?_cons_succ] at x0 x1 x2 x3
      have y0 := blk_frozen H6t.out 0
      have y1 := blk_frozen H6t.out 1
      have y2 := blk_frozen H6t.out 2
      have y3 := blk_frozen H6t.out 3
      have hg := grown_setCell w8 g6 2 (.string (strOfNums ta))
      have HL8 := Aside0.mk (rleft_grown HLt.out (show Below w.heap.size w8 (w8.setCell ⟨g6, 2, none⟩ (.string (strOfNums ta))) from ⟨rfl, rfl, rfl, by simp [World.setCell], fun k hk => Below.heap_setCell w8 ⟨g6, 2, none⟩ (.string (strOfNums ta)) k (by have := HN6.out; dsimp only; omega)⟩) hg (fun b e => by injection e with e; subst e; have := HN6.out; exact ⟨by omega, by omega⟩) (Nat.le_refl _))
      have H28 := Aside0.mk (show Blk (w8.setCell ⟨g6, 2, none⟩ (.string (strOfNums ta))) w.heap.size 60 #[.int .i64 0, .int .i64 0, .string ⟨#[]⟩, .string ⟨#[]⟩] from (hg.block w.heap.size H2t.out.lt (fun e => by injection e with e; have := HN6.out; omega)).trans H2t.out)
      have H68 := Aside0.mk (show Blk (w8.setCell ⟨g6, 2, none⟩ (.string (strOfNums ta))) g6 60 #[.int .i64 f, .int .i64 t, .string (strOfNums ta), .string ⟨#[]⟩] from by have h := blk_set H6t.out 2 (.string (strOfNums ta)); simpa [Blk] using h)
      clear hg
      go_upto_region 7 with (fail)
      obtain ⟨w8b, hw_⟩ : ∃ W_, w8.setCell ⟨g6, 2, none⟩ (.string (strOfNums ta)) = W_ := ⟨_, rfl⟩
      rw [hw_] at HL8 H28 H68
      rw [hw_]
      clear hw_ hcv H6t H2t HLt x0 y0 x1 y1 x2 y2 x3 y3
      go_wp2_with (fail)
      refine (textO_ w _ g s3 16 HL8.out.1 HL8.out.2.1 (by decide)).mono ?_
      rintro e w9 ⟨v, rfl, ho, hl⟩
      rw [HT9.out] at ho hl
      obtain ⟨A9, c9, rfl, hl9, hr9⟩ := Kd.R_reads ho
      have hcv := Kd.C_string (P := Try.prog) (c := c9) Try.underlying25 Try.underlying5 Try.underlying9 hr9
      have H6t := Aside0.mk (H68.out.keep hl.2.2 (by have := HN6.out; omega))
      have H2t := Aside0.mk (H28.out.keep hl.2.2 (by have := HG.out; omega))
      have HLt := Aside0.mk (HL8.out.trans hl)
      clear ho hl hl9 hr9
      have x0 := H6t.out.cell 0
      have x1 := H6t.out.cell 1
      have x2 := H6t.out.cell 2
      have x3 := H6t.out.cell 3
      simp only [List.getElem?_toArray, List.getElem?_cons_zero, List.getElem?_cons_succ] at x0 x1 x2 x3
      have y0 := blk_frozen H6t.out 0
      have y1 := blk_frozen H6t.out 1
      have y2 := blk_frozen H6t.out 2
      have y3 := blk_frozen H6t.out 3
      have hg := grown_setCell w9 g6 3 (.string (strOfNums tc))
      have HL9 := Aside0.mk (rleft_grown HLt.out (show Below w.heap.size w9 (w9.setCell ⟨g6, 3, none⟩ (.string (strOfNums tc))) from ⟨rfl, rfl, rfl, by simp [World.setCell], fun k hk => Below.heap_setCell w9 ⟨g6, 3, none⟩ (.string (strOfNums tc)) k (by have := HN6.out; dsimp only; omega)⟩) hg (fun b e => by injection e with e; subst e; have := HN6.out; exact ⟨by omega, by omega⟩) (Nat.le_refl _))
      have H29 := Aside0.mk (show Blk (w9.setCell ⟨g6, 3, none⟩ (.string (strOfNums tc))) w.heap.size 60 #[.int .i64 0, .int .i64 0, .string ⟨#[]⟩, .string ⟨#[]⟩] from (hg.block w.heap.size H2t.out.lt (fun e => by injection e with e; have := HN6.out; omega)).trans H2t.out)
      have H69 := Aside0.mk (show Blk (w9.setCell ⟨g6, 3, none⟩ (.string (strOfNums tc))) g6 60 #[.int .i64 f, .int .i64 t, .string (strOfNums ta), .string (strOfNums tc)] from by have h := blk_set H6t.out 3 (.string (strOfNums tc)); simpa [Blk] using h)
      clear hg
      go_upto_region 8 with (fail)
      obtain ⟨w9b, hw_⟩ : ∃ W_, w9.setCell ⟨g6, 3, none⟩ (.string (strOfNums tc)) = W_ := ⟨_, rfl⟩
      rw [hw_] at HL9 H29 H69
      rw [hw_]
      clear hw_ hcv H6t H2t HLt x0 y0 x1 y1 x2 y2 x3 y3
      skip
      have z0 := H29.out.cell 0
      have z1 := H29.out.cell 1
      have z2 := H29.out.cell 2
      have z3 := H29.out.cell 3
      simp only [List.getElem?_toArray, List.getElem?_cons_zero, List.getElem?_cons_succ] at z0 z1 z2 z3
      have u0 := blk_frozen H29.out 0
      have u1 := blk_frozen H29.out 1
      have u2 := blk_frozen H29.out 2
      have u3 := blk_frozen H29.out 3
      have x0 := H69.out.cell 0
      have x1 := H69.out.cell 1
      have x2 := H69.out.cell 2
      have x3 := H69.out.cell 3
      simp only [List.getElem?_toArray, List.getElem?_cons_zero, List.getElem?_cons_succ] at x0 x1 x2 x3
      have hf1 := HL9.out.1.fail.1
      have hf2 := HL9.out.1.fail.2
      cases s4 with
      | none =>
        simp only [Option.isSome_none, Bool.not_false] at hf1
        go_wp2_with (fail)
        refine bodyPost_ret (results_ct rfl _ _ w.heap.size 60 #[.int .i64 0, .int .i64 0, .string ⟨#[]⟩, .string ⟨#[]⟩] (0, 0) _ rfl (set4 H29.out _ _ _ _) Try.underlying60 rfl (by kernel_rfl)) rfl ?_
        unfold GetQ
        rw [HE.out]
        exact ⟨rfl, below_set4 HL9.out.2.1 (Nat.le_refl _) _ _ _ _⟩
      | some r4 =>
        simp only [Option.isSome_some, Bool.not_true] at hf1
        obtain ⟨A7, c7, hb7, _, _⟩ := HL9.out.1.bytes
        cases r4 with
        | cons c0 r0 =>
          have p9 : (0 : Int) < (((c0 :: r0).length : Nat) : Int) := by simp only [List.length_cons]; omega
          have p8 : decide ((0 : Int) < (((c0 :: r0).length : Nat) : Int)) = true := decide_eq_true p9
          obtain ⟨nl, hnl⟩ : ∃ n, (c0 :: r0).length = n := ⟨_, rfl⟩
          rw [hnl] at p9 p8 hb7
          have p7 : 0 < nl := by omega
          go_wp2_with (fail)
          refine bodyPost_ret (results_ct rfl _ _ w.heap.size 60 #[.int .i64 0, .int .i64 0, .string ⟨#[]⟩, .string ⟨#[]⟩] (0, 0) _ rfl (set4 H29.out _ _ _ _) Try.underlying60 rfl (by kernel_rfl)) rfl ?_
          unfold GetQ
          rw [HE.out]
          exact ⟨rfl, below_set4 HL9.out.2.1 (Nat.le_refl _) _ _ _ _⟩
        | nil =>
          rw [show ([] : List Int).length = 0 from rfl] at hb7
          have HCK := Aside0.mk (fun V => rmay_c (f, t, strOfNums ta, strOfNums tc) (HSZ.out.1) (HSZ.out.2) V)
          have HE := Aside0.mk (show getE (f :: r) = if mayE (f, t, strOfNums ta, strOfNums tc) = true then some (f, t, strOfNums ta, strOfNums tc) else none from HE.out)
          obtain ⟨mb, hmb⟩ : ∃ v, mayE (f, t, strOfNums ta, strOfNums tc) = v := ⟨_, rfl⟩
          rw [hmb] at HCK HE
          clear hmb
          go_wp2_with (fail)
          refine (HCK.out _).mono ?_
          rintro e wk ⟨rfl, hb⟩
          have H2k := Aside0.mk (H29.out.below hb)
          have H6k := Aside0.mk (H69.out.below hb)
          have HBk := Aside0.mk (below_step HL9.out.2.1 hb)
          clear hb hf1 hf2 hb7 z0 u0 x0 z1 u1 x1 z2 u2 x2 z3 u3 x3
          have z0 := H2k.out.cell 0
          have z1 := H2k.out.cell 1
          have z2 := H2k.out.cell 2
          have z3 := H2k.out.cell 3
          simp only [List.getElem?_toArray, List.getElem?_cons_zero, List.getElem?_cons_succ] at z0 z1 z2 z3
          have u0 := blk_frozen H2k.out 0
          have u1 := blk_frozen H2k.out 1
          have u2 := blk_frozen H2k.out 2
          have u3 := blk_frozen H2k.out 3
          have x0 := H6k.out.cell 0
          have x1 := H6k.out.cell 1
          have x2 := H6k.out.cell 2
          have x3 := H6k.out.cell 3
          simp only [List.getElem?_toArray, List.getElem?_cons_zero, List.getElem?_cons_succ] at x0 x1 x2 x3
          cases mb with
          | false =>
            rw [if_neg Bool.false_ne_true] at HE
            go_wp2_with (fail)
            refine bodyPost_ret (results_ct rfl _ _ w.heap.size 60 #[.int .i64 0, .int .i64 0, .string ⟨#[]⟩, .string ⟨#[]⟩] (0, 0) _ rfl (set4 H2k.out _ _ _ _) Try.underlying60 rfl (by kernel_rfl)) rfl ?_
            unfold GetQ
            rw [HE.out]
            exact ⟨rfl, below_set4 HBk.out (Nat.le_refl _) _ _ _ _⟩
          | true =>
            rw [if_pos rfl] at HE
            go_wp2_with (fail)
            refine bodyPost_ret (results_ct rfl _ _ w.heap.size 60 #[.int .i64 f, .int .i64 t, .string (strOfNums ta), .string (strOfNums tc)] (0, 0) _ rfl (set4 H2k.out _ _ _ _) Try.underlying60 rfl (by kernel_rfl)) rfl ?_
            unfold GetQ
            rw [HE.out]
            exact ⟨rfl, below_set4 HBk.out (Nat.le_refl _) _ _ _ _⟩
    · rw [if_pos (by rfl)]
      refine wp_alloc_ev rfl ?_
      have hb := below_alloc (Below.refl w2.drew.heap.size w2.drew) (.cells #[.int .i64 0, .int .i64 0, .string ⟨#[]⟩, .string ⟨#[]⟩] 60)
      have HL5 := Aside0.mk (rleft_below HLd.out hb)
      have H25 := Aside0.mk (H2d.out.below hb)
      have HF5 := Aside0.mk (show Rb (w2.drew.alloc (.cells #[.int .i64 0, .int .i64 0, .string ⟨#[]⟩, .string ⟨#[]⟩] 60)) (some ad5) [f] from Kd.C_below (Kd.C_drew HF2.out : Rb w2.drew (some ad5) [f]) hb)
      have H65 := Aside0.mk (show Blk (w2.drew.alloc (.cells #[.int .i64 0, .int .i64 0, .string ⟨#[]⟩, .string ⟨#[]⟩] 60)) w2.drew.heap.size 60 #[.int .i64 0, .int .i64 0, .string ⟨#[]⟩, .string ⟨#[]⟩] from blk_new _ _)
      have HNN := Aside0.mk (show g < w2.drew.heap.size from HLd.out.1.blk.2.1)
      have HFN := Aside0.mk (show ad5.block ≠ w2.drew.heap.size from Nat.ne_of_lt (World.block_lt_of_cell? _ _ (show w2.drew.cell? ad5 = some (.int .u8 f) from hc5)))
      obtain ⟨w5, hw_⟩ : ∃ W_, w2.drew.alloc (.cells #[.int .i64 0, .int .i64 0, .string ⟨#[]⟩, .string ⟨#[]⟩] 60) = W_ := ⟨_, rfl⟩
      obtain ⟨g6, hg_⟩ : ∃ W_, w2.drew.heap.size = W_ := ⟨_, rfl⟩
      clear hb
      rw [hw_] at HL5 H25 HF5 H65
      rw [hg_] at H65 HNN HFN
      rw [hw_, hg_]
      clear hw_ hg_
      (refine Shut.out hK _ _ (rb_cells HF5.out 0 _ rfl) (fun hHeld => ?_); clear hK K; (try simp only [Act.put, List.getElem_toArray, List.getElem_cons_zero, List.getElem_cons_succ, List.setIfInBounds_toArray, List.set_cons_zero, List.set_cons_succ]))
      (refine wpAnyH_ready (rs := [5]) (by kernel_rfl) (by simp) (AllReadyH.cons rfl (fun K hK => ?_) AllReadyH.nil); go_simp)
      refine (countO_ w _ g (some r) 1099511627776 HL5.out.1 HL5.out.2.1 (by decide)).mono ?_
      rintro e w6 ⟨rfl, hl⟩
      rw [HCT.out] at hl
      rw [HCT.out]
      have HL6 := Aside0.mk (HL5.out.trans hl)
      have H26 := Aside0.mk (H25.out.keep hl.2.2 (by have := HG.out; omega))
      have H66 := Aside0.mk (H65.out.keep hl.2.2 (by have := HNN.out; omega))
      have HF6 := Aside0.mk (rrb_step HF5.out HL5.out.1 hl.2.2)
      clear hl
      (refine Shut.out hK _ _ (rb_cells HF6.out 0 _ rfl) (fun hHeld => ?_); clear hK K; (try simp only [Act.put, List.getElem_toArray, List.getElem_cons_zero, List.getElem_cons_succ, List.setIfInBounds_toArray, List.set_cons_zero, List.set_cons_succ]))
      (refine wpAnyH_take (i := 6) (v := ?_) rfl (by kernel_rfl) (by kernel_rfl) (by kernel_rfl) (fun _ _ _ h => h) (Or.inl ⟨by rfl, ?_⟩) (by assumption) ?_; (case' refine_2 => (intro w hSw; go_simp; try with_reducible rfl)); (try simp only [Act.put, List.getElem_toArray, List.getElem_cons_zero, List.getElem_cons_succ, List.setIfInBounds_toArray, List.set_cons_zero, List.set_cons_succ]))
      refine wpAnyH_ready (rs := [8]) (by kernel_rfl) (by simp) (AllReadyH.cons rfl (fun K hK => ?_) AllReadyH.nil)
      rw [if_pos (by rfl)]
      refine wp_store_row 60 (.tmp 6) (.tmp 24) rfl g6 #[.int .i64 f, .int .i64 t, .string ⟨#[]⟩, .string ⟨#[]⟩] rfl rfl 60 #[.int .i64 0, .int .i64 0, .string ⟨#[]⟩, .string ⟨#[]⟩] H66.out info_evS rfl (by simp [Value.oneCell']) ?_
      have hg := grown_setRow w6 g6 #[.int .i64 f, .int .i64 t, .string ⟨#[]⟩, .string ⟨#[]⟩]
      have HL7 := Aside0.mk (rleft_grown HL6.out (below_setRow (Below.refl _ _) (by have := HNN.out; have := HG.out; omega) _) hg (fun b e => by injection e with e; subst e; have := HNN.out; have := HG.out; exact ⟨by omega, by omega⟩) (Nat.le_refl _))
      have H27 := Aside0.mk (show Blk (w6.setRow g6 #[.int .i64 f, .int .i64 t, .string ⟨#[]⟩, .string ⟨#[]⟩]) w.heap.size 60 #[.int .i64 0, .int .i64 0, .string ⟨#[]⟩, .string ⟨#[]⟩] from (hg.block w.heap.size H26.out.lt (fun e => by injection e with e; have := HNN.out; have := HG.out; omega)).trans H26.out)
      have H67 := Aside0.mk (show Blk (w6.setRow g6 #[.int .i64 f, .int .i64 t, .string ⟨#[]⟩, .string ⟨#[]⟩]) g6 60 #[.int .i64 f, .int .i64 t, .string ⟨#[]⟩, .string ⟨#[]⟩] from setRow_heap w6 g6 #[.int .i64 0, .int .i64 0, .string ⟨#[]⟩, .string ⟨#[]⟩] #[.int .i64 f, .int .i64 t, .string ⟨#[]⟩, .string ⟨#[]⟩] _ _ H66.out)
      have HN6 := Aside0.mk (show g < g6 ∧ w.heap.size < g6 from by have := HNN.out; have := HG.out; exact ⟨by omega, by omega⟩)
      obtain ⟨w7, hw_⟩ : ∃ W_, w6.setRow g6 #[.int .i64 f, .int .i64 t, .string ⟨#[]⟩, .string ⟨#[]⟩] = W_ := ⟨_, rfl⟩
      have HF7 := Aside0.mk (rb_row HF6.out hg (fun ad e => by cases e; exact HFN.out))
      rw [hw_] at HL7 H27 H67 HF7
      rw [hw_]
      clear hw_ hg
      (refine Shut.out hK _ _ (rb_cells HF7.out 0 _ rfl) (fun hHeld => ?_); clear hK K; (try simp only [Act.put, List.getElem_toArray, List.getElem_cons_zero, List.getElem_cons_succ, List.setIfInBounds_toArray, List.set_cons_zero, List.set_cons_succ]))
      refine wpAnyH_done (by kernel_rfl) ?_ _
      clear hHeld
      go_wp2_with (fail)
      refine (textO_ w _ g s2 16 HL7.out.1 HL7.out.2.1 (by decide)).mono ?_
      rintro e w8 ⟨v, rfl, ho, hl⟩
      rw [HT8.out] at ho hl
      obtain ⟨A8, c8, rfl, hl8, hr8⟩ := Kd.R_reads ho
      have hcv := Kd.C_string (P := Try.prog) (c := c8) Try.underlying25 Try.underlying5 Try.underlying9 hr8
      have H6t := Aside0.mk (H67.out.keep hl.2.2 (by have := HN6.out; omega))
      have H2t := Aside0.mk (H27.out.keep hl.2.2 (by have := HG.out; omega))
      have HLt := Aside0.mk (HL7.out.trans hl)
      clear ho hl hl8 hr8
      have x0 := H6t.out.cell 0
      have x1 := H6t.out.cell 1
      have x2 := H6t.out.cell 2
      have x3 := H6t.out.cell 3
      simp only [List.getElem?_toArray, List.getElem?_cons_zero, List.getElem?_cons_succ] at x0 x1 x2 x3
      have y0 := blk_frozen H6t.out 0
      have y1 := blk_frozen H6t.out 1
      have y2 := blk_frozen H6t.out 2
      have y3 := blk_frozen H6t.out 3
      have hg := grown_setCell w8 g6 2 (.string (strOfNums ta))
      have HL8 := Aside0.mk (rleft_grown HLt.out (show Below w.heap.size w8 (w8.setCell ⟨g6, 2, none⟩ (.string (strOfNums ta))) from ⟨rfl, rfl, rfl, by simp [World.setCell], fun k hk => Below.heap_setCell w8 ⟨g6, 2, none⟩ (.string (strOfNums ta)) k (by have := HN6.out; dsimp only; omega)⟩) hg (fun b e => by injection e with e; subst e; have := HN6.out; exact ⟨by omega, by omega⟩) (Nat.le_refl _))
      have H28 := Aside0.mk (show Blk (w8.setCell ⟨g6, 2, none⟩ (.string (strOfNums ta))) w.heap.size 60 #[.int .i64 0, .int .i64 0, .string ⟨#[]⟩, .string ⟨#[]⟩] from (hg.block w.heap.size H2t.out.lt (fun e => by injection e with e; have := HN6.out; omega)).trans H2t.out)
      have H68 := Aside0.mk (show Blk (w8.setCell ⟨g6, 2, none⟩ (.string (strOfNums ta))) g6 60 #[.int .i64 f, .int .i64 t, .string (strOfNums ta), .string ⟨#[]⟩] from by have h := blk_set H6t.out 2 (.string (strOfNums ta)); simpa [Blk] using h)
      clear hg
      go_upto_region 7 with (fail)
      obtain ⟨w8b, hw_⟩ : ∃ W_, w8.setCell ⟨g6, 2, none⟩ (.string (strOfNums ta)) = W_ := ⟨_, rfl⟩
      rw [hw_] at HL8 H28 H68
      rw [hw_]
      clear hw_ hcv H6t H2t HLt x0 y0 x1 y1 x2 y2 x3 y3
      go_wp2_with (fail)
      refine (textO_ w _ g s3 16 HL8.out.1 HL8.out.2.1 (by decide)).mono ?_
      rintro e w9 ⟨v, rfl, ho, hl⟩
      rw [HT9.out] at ho hl
      obtain ⟨A9, c9, rfl, hl9, hr9⟩ := Kd.R_reads ho
      have hcv := Kd.C_string (P := Try.prog) (c := c9) Try.underlying25 Try.underlying5 Try.underlying9 hr9
      have H6t := Aside0.mk (H68.out.keep hl.2.2 (by have := HN6.out; omega))
      have H2t := Aside0.mk (H28.out.keep hl.2.2 (by have := HG.out; omega))
      have HLt := Aside0.mk (HL8.out.trans hl)
      clear ho hl hl9 hr9
      have x0 := H6t.out.cell 0
      have x1 := H6t.out.cell 1
      have x2 := H6t.out.cell 2
      have x3 := H6t.out.cell 3
      simp only [List.getElem?_toArray, List.getElem?_cons_zero, List.getElem?_cons_succ] at x0 x1 x2 x3
      have y0 := blk_frozen H6t.out 0
      have y1 := blk_frozen H6t.out 1
      have y2 := blk_frozen H6t.out 2
      have y3 := blk_frozen H6t.out 3
      have hg := grown_setCell w9 g6 3 (.string (strOfNums tc))
      have HL9 := Aside0.mk (rleft_grown HLt.out (show Below w.heap.size w9 (w9.setCell ⟨g6, 3, none⟩ (.string (strOfNums tc))) from ⟨rfl, rfl, rfl, by simp [World.setCell], fun k hk => Below.heap_setCell w9 ⟨g6, 3, none⟩ (.string (strOfNums tc)) k (by have := HN6.out; dsimp only; omega)⟩) hg (fun b e => by injection e with e; subst e; have := HN6.out; exact ⟨by omega, by omega⟩) (Nat.le_refl _))
      have H29 := Aside0.mk (show Blk (w9.setCell ⟨g6, 3, none⟩ (.string (strOfNums tc))) w.heap.size 60 #[.int .i64 0, .int .i64 0, .string ⟨#[]⟩, .string ⟨#[]⟩] from (hg.block w.heap.size H2t.out.lt (fun e => by injection e with e; have := HN6.out; omega)).trans H2t.out)
      have H69 := Aside0.mk (show Blk (w9.setCell ⟨g6, 3, none⟩ (.string (strOfNums tc))) g6 60 #[.int .i64 f, .int .i64 t, .string (strOfNums ta), .string (strOfNums tc)] from by have h := blk_set H6t.out 3 (.string (strOfNums tc)); simpa [Blk] using h)
      clear hg
      go_upto_region 8 with (fail)
      obtain ⟨w9b, hw_⟩ : ∃ W_, w9.setCell ⟨g6, 3, none⟩ (.string (strOfNums tc)) = W_ := ⟨_, rfl⟩
      rw [hw_] at HL9 H29 H69
      rw [hw_]
      clear hw_ hcv H6t H2t HLt x0 y0 x1 y1 x2 y2 x3 y3
      skip
      have z0 := H29.out.cell 0
      have z1 := H29.out.cell 1
      have z2 := H29.out.cell 2
      have z3 := H29.out.cell 3
      simp only [List.getElem?_toArray, List.getElem?_cons_zero, List.getElem?_cons_succ] at z0 z1 z2 z3
      have u0 := blk_frozen H29.out 0
      have u1 := blk_frozen H29.out 1
      have u2 := blk_frozen H29.out 2
      have u3 := blk_frozen H29.out 3
      have x0 := H69.out.cell 0
      have x1 := H69.out.cell 1
      have x2 := H69.out.cell 2
      have x3 := H69.out.cell 3
      simp only [List.getElem?_toArray, List.getElem?_cons_zero, List.getElem?_cons_succ] at x0 x1 x2 x3
      have hf1 := HL9.out.1.fail.1
      have hf2 := HL9.out.1.fail.2
      cases s4 with
      | none =>
        simp only [Option.isSome_none, Bool.not_false] at hf1
        go_wp2_with (fail)
        refine bodyPost_ret (results_ct rfl _ _ w.heap.size 60 #[.int .i64 0, .int .i64 0, .string ⟨#[]⟩, .string ⟨#[]⟩] (0, 0) _ rfl (set4 H29.out _ _ _ _) Try.underlying60 rfl (by kernel_rfl)) rfl ?_
        unfold GetQ
        rw [HE.out]
        exact ⟨rfl, below_set4 HL9.out.2.1 (Nat.le_refl _) _ _ _ _⟩
      | some r4 =>
        simp only [Option.isSome_some, Bool.not_true] at hf1
        obtain ⟨A7, c7, hb7, _, _⟩ := HL9.out.1.bytes
        cases r4 with
        | cons c0 r0 =>
          have p9 : (0 : Int) < (((c0 :: r0).length : Nat) : Int) := by simp only [List.length_cons]; omega
          have p8 : decide ((0 : Int) < (((c0 :: r0).length : Nat) : Int)) = true := decide_eq_true p9
          obtain ⟨nl, hnl⟩ : ∃ n, (c0 :: r0).length = n := ⟨_, rfl⟩
          rw [hnl] at p9 p8 hb7
          have p7 : 0 < nl := by omega
          go_wp2_with (fail)
          refine bodyPost_ret (results_ct rfl _ _ w.heap.size 60 #[.int .i64 0, .int .i64 0, .string ⟨#[]⟩, .string ⟨#[]⟩] (0, 0) _ rfl (set4 H29.out _ _ _ _) Try.underlying60 rfl (by kernel_rfl)) rfl ?_
          unfold GetQ
          rw [HE.out]
          exact ⟨rfl, below_set4 HL9.out.2.1 (Nat.le_refl _) _ _ _ _⟩
        | nil =>
          rw [show ([] : List Int).length = 0 from rfl] at hb7
          have HCK := Aside0.mk (fun V => rmay_c (f, t, strOfNums ta, strOfNums tc) (HSZ.out.1) (HSZ.out.2) V)
          have HE := Aside0.mk (show getE (f :: r) = if mayE (f, t, strOfNums ta, strOfNums tc) = true then some (f, t, strOfNums ta, strOfNums tc) else none from HE.out)
          obtain ⟨mb, hmb⟩ : ∃ v, mayE (f, t, strOfNums ta, strOfNums tc) = v := ⟨_, rfl⟩
          rw [hmb] at HCK HE
          clear hmb
          go_wp2_with (fail)
          refine (HCK.out _).mono ?_
          rintro e wk ⟨rfl, hb⟩
          have H2k := Aside0.mk (H29.out.below hb)
          have H6k := Aside0.mk (H69.out.below hb)
          have HBk := Aside0.mk (below_step HL9.out.2.1 hb)
          clear hb hf1 hf2 hb7 z0 u0 x0 z1 u1 x1 z2 u2 x2 z3 u3 x3
          have z0 := H2k.out.cell 0
          have z1 := H2k.out.cell 1
          have z2 := H2k.out.cell 2
          have z3 := H2k.out.cell 3
          simp only [List.getElem?_toArray, List.getElem?_cons_zero, List.getElem?_cons_succ] at z0 z1 z2 z3
          have u0 := blk_frozen H2k.out 0
          have u1 := blk_frozen H2k.out 1
          have u2 := blk_frozen H2k.out 2
          have u3 := blk_frozen H2k.out 3
          have x0 := H6k.out.cell 0
          have x1 := H6k.out.cell 1
          have x2 := H6k.out.cell 2
          have x3 := H6k.out.cell 3
          simp only [List.getElem?_toArray, List.getElem?_cons_zero, List.getElem?_cons_succ] at x0 x1 x2 x3
          cases mb with
          | false =>
            rw [if_neg Bool.false_ne_true] at HE
            go_wp2_with (fail)
            refine bodyPost_ret (results_ct rfl _ _ w.heap.size 60 #[.int .i64 0, .int .i64 0, .string ⟨#[]⟩, .string ⟨#[]⟩] (0, 0) _ rfl (set4 H2k.out _ _ _ _) Try.underlying60 rfl (by kernel_rfl)) rfl ?_
            unfold GetQ
            rw [HE.out]
            exact ⟨rfl, below_set4 HBk.out (Nat.le_refl _) _ _ _ _⟩
          | true =>
            rw [if_pos rfl] at HE
            go_wp2_with (fail)
            refine bodyPost_ret (results_ct rfl _ _ w.heap.size 60 #[.int .i64 f, .int .i64 t, .string (strOfNums ta), .string (strOfNums tc)] (0, 0) _ rfl (set4 H2k.out _ _ _ _) Try.underlying60 rfl (by kernel_rfl)) rfl ?_
            unfold GetQ
            rw [HE.out]
            exact ⟨rfl, below_set4 HBk.out (Nat.le_refl _) _ _ _ _⟩
end Go.Proofs.Ytfpkgdenohcglaa.Evt
/- event.Get and the document's, in the printed functions' form. -/
namespace Go.Proofs.Ytfpkgdenohcglaa.PZ
set_option linter.unusedVariables false
open Go.RowKit Go.Proofs.YtfpkgdenohcglaaW.PrintWords Go.Proofs.Ytfpkgdenohcglaa.TlvPlain Go.Proofs.Ytfpkgdenohcglaa.Evt
def evOk (l : List Int) : Bool := decide (l.length < 100000000) && l.all (fun x => decide (0 ≤ x) && decide (x ≤ 255))
theorem evOk_iff {l : List Int} : evOk l = true ↔ l.length < 100000000 ∧ U8 l := by
  unfold evOk U8
  simp only [List.all_eq_true, Bool.and_eq_true, decide_eq_true_eq]
def evR (l : List Int) : Int × Int × ByteArray × ByteArray × Int := (((getE l).getD zEv).1, ((getE l).getD zEv).2.1, ((getE l).getD zEv).2.2.1, ((getE l).getD zEv).2.2.2, if (getE l).isSome then 0 else 2)
def event_Get.f (l0 : List Int) : Option (Int × Int × ByteArray × ByteArray × Int) := if evOk l0 = true then some (evR l0) else none
theorem event_Get.calls (A0 : Option Addr) (c0 : Nat) (l0 : List Int) (r1 : Int) (r2 : Int) (r3 : ByteArray) (r4 : ByteArray) (r5 : Int) (w : World) (hr0 : Kd.C (Kd.int .u8) w A0 l0.length l0) (hc0 : l0.length ≤ c0) (h : event_Get.f l0 = some (r1, r2, r3, r4, r5)) :
    Calls Try.prog 93 #[.slice A0 l0.length c0] w fun e w' => e = .returned (.tuple #[.agg #[.int .i64 r1, .int .i64 r2, .string r3, .string r4], .int .i64 r5]) ∧ Below w.heap.size w w' := by
  unfold event_Get.f evR at h
  split at h
  · next hc =>
    simp only [Option.some.injEq, Prod.mk.injEq] at h
    obtain ⟨rfl, rfl, rfl, rfl, rfl⟩ := h
    exact get_c w A0 c0 l0 hr0 hc0 (evOk_iff.1 hc).1 (evOk_iff.1 hc).2
  · cases h
def hanaperref23_Get.f (l0 : List Int) : Option (Int × Int × ByteArray × ByteArray × Int) := if evOk l0 = true then some (evR l0) else none
theorem hanaperref23_Get.calls (A0 : Option Addr) (c0 : Nat) (l0 : List Int) (r1 : Int) (r2 : Int) (r3 : ByteArray) (r4 : ByteArray) (r5 : Int) (w : World) (hr0 : Kd.C (Kd.int .u8) w A0 l0.length l0) (hc0 : l0.length ≤ c0) (h : hanaperref23_Get.f l0 = some (r1, r2, r3, r4, r5)) :
    Calls Try.prog 38 #[.slice A0 l0.length c0] w fun e w' => e = .returned (.tuple #[.agg #[.int .i64 r1, .int .i64 r2, .string r3, .string r4], .int .i64 r5]) ∧ Below w.heap.size w w' := by
  unfold hanaperref23_Get.f evR at h
  split at h
  · next hc =>
    simp only [Option.some.injEq, Prod.mk.injEq] at h
    obtain ⟨rfl, rfl, rfl, rfl, rfl⟩ := h
    exact rget_c w A0 c0 l0 hr0 hc0 (evOk_iff.1 hc).1 (evOk_iff.1 hc).2
  · cases h
end Go.Proofs.Ytfpkgdenohcglaa.PZ
/- Certificates, plainly. -/
namespace Go.Proofs.Ytfpkgdenohcglaa.Crt
set_option linter.unusedVariables false
set_option linter.unusedSimpArgs false
open Go.RowKit Go.Proofs.Ytfpkgdenohcglaa.Base Go.Proofs.Ytfpkgdenohcglaa.TlvPlain Go.Proofs.Ytfpkgdenohcglaa.Lo Go.Proofs.Ytfpkgdenohcglaa.Aid Go.Proofs.Ytfpkgdenohcglaa.Chn Go.Proofs.Ytfpkgdenohcglaa.Evt Go.Proofs.YtfpkgdenohcglaaW.PrintWords
/-- rec, seq, salt, payload -/
abbrev Cer := ByteArray × Int × Int × List Int
def zC : Cer := (emptyS, 0, 0, [])
/-- The event by which a record ends. -/
def endedT (b : List Int) : Option Evn := match getE b with
  | none => none
  | some x => if endsE x = true then (if Name.nameB x.2.2.1 = true then some x else none) else none
def evC (c : Cer) : Option Evn := match endedT c.2.2.2 with
  | none => none
  | some x => if x.2.2.1.toList = c.1.toList then some x else none
def mayC (c : Cer) : Bool := (evC c).isSome && (decide (0 ≤ c.2.1) && decide (c.2.1 < 120))
def makeT (l : List Ent) (i : Int) : Cer × Int :=
  if i < 0 ∨ (l.length : Int) ≤ i then (zC, 5) else match l[i.toNat]? with
    | none => (zC, 5)
    | some e => if redE e = true then (zC, 13) else match endedT (payE e) with
      | none => (zC, 13)
      | some x => if 120 ≤ i then (zC, 1) else ((x.2.2.1, i, saltE e, payE e), 0)
def checkT (c : Cer) (l : List Ent) : Bool := mayC c && (decide (c.2.1 < (l.length : Int)) && (match l[c.2.1.toNat]? with
  | some e => decide (comE e = comH c.2.2.1 c.2.2.2)
  | none => false))
theorem getE_may {b : List Int} {x : Evn} (h : getE b = some x) : mayE x = true := by
  unfold getE at h
  split at h
  · cases h
  · split at h
    · split at h
      · next hm => cases h; exact hm
      · cases h
    · cases h
theorem may_names {x : Evn} (h : mayE x = true) : nmB x.2.2.1 = true ∧ nmB x.2.2.2 = true := by
  unfold mayE at h
  simp only [Bool.and_eq_true] at h
  exact h.2.2.2
/-- Of an event that may be: its name is a name, or there is none. -/
theorem may_name {x : Evn} (h : mayE x = true) : Name.nameB x.2.2.1 = !decide (x.2.2.1.toList = []) := by
  have h1 := (may_names h).1
  unfold nmB at h1
  by_cases h2 : x.2.2.1.toList = []
  · rw [decide_eq_true h2]
    have h3 : x.2.2.1.size = 0 := by
      have h4 : x.2.2.1.data.toList = [] := by rw [← ByteArray.toList_eq]; exact h2
      have h5 : x.2.2.1.data.size = 0 := by rw [← Array.length_toList, h4]; rfl
      exact h5
    rw [Name.name_iff]
    rw [decide_eq_false (show ¬ 1 ≤ x.2.2.1.size by omega)]
    simp
  · rw [decide_eq_false h2] at h1 ⊢
    simpa using h1
theorem ends_may {x : Evn} (h : endsE x = true) : mayE x = true := by
  unfold endsE at h
  simp only [Bool.and_eq_true] at h
  exact h.1
/-- The document asks for a name that is not empty. -/
theorem ended_eq (b : List Int) : endedT b = match getE b with
  | none => none
  | some x => if endsE x = true then (if x.2.2.1.toList = [] then none else some x) else none := by
  unfold endedT
  cases getE b with
  | none => rfl
  | some x =>
    dsimp only
    by_cases h : endsE x = true
    · rw [if_pos h, if_pos h, may_name (ends_may h)]
      by_cases h2 : x.2.2.1.toList = []
      · rw [decide_eq_true h2, if_pos h2]; rfl
      · rw [decide_eq_false h2, if_neg h2]; rfl
    · rw [if_neg h, if_neg h]
end Go.Proofs.Ytfpkgdenohcglaa.Crt
